/- Lemmas and walks for FnExactServerNew: what each function of the program and of the reference comes to. -/
import Derived.Test.YtghokbigemmaaaaGreatQ4
import Derived.Test.YtghokbigemmaaaaGreatRp
import Derived.Test.YtghokbigemmaaaaGreatJ1
import Derived.Test.YtghokbigemmaaaaGreatJ3
open List renaming length→aaK,map→aaN,length_map→aaS,take_of_length_le→aaU,take→aa8,drop→abi,length_singleton→abM
open ByteArray renaming size→aaL,empty→aaM,mk→aaP,size_append→aaT,size_extract→aa3,extract→abE
open Int renaming toNat→aaO,tdiv_eq_ediv_of_nonneg→abF,toNat_of_nonneg→abN,fdiv→acr
open Nat renaming zero_le→aaW
namespace Go.Av
open Go Go.Proofs
set_option maxRecDepth 100000
set_option maxHeartbeats 4000000
set_option linter.unusedVariables false
set_option linter.unusedSimpArgs false
def ZH (p0 p1:Int)(p2:ByteArray)(p3:Int)(p4 p5 p6 p7:RR):St:={sl:=.aa::.ii p0::.ii p1::.str p2::.pt 4 0 0::dV++.pt 8 0 0::.aa::.pt 10 0 0::.ii p3::Tx,bl:=[(4,⟨.var,2,[[.sl 1 p4,.sl 2 p5]]⟩),(8,⟨.var,2,[[.zc,.zc]]⟩),(10,⟨.var,2,[[.own 20,.own 1020]]⟩),(20,⟨.arr,1,p6⟩),(1020,⟨.arr,2,p7⟩)]}
theorem th (A:ax)(hA:A=aj)(d:bj)(sector at_:Int)(t:ByteArray)(hd:eM d)(hc:d.Cache=[])(h0:0<=sector)(h1:sector < (d.aD.length:Int))(h2:0<=at_)(h3:sector * 32+at_+(t.size:Int)<=32 * (d.aD.length:Int))(h4:t.size<=1600):al 90 [.agg (gf d),.ii sector,.ii at_,.str t] (.aw [.agg (jo ⟨d.aD,wr d.aD (aaO sector) (aaO at_) t⟩),.bool true]):=by
 obtain⟨a0,a3⟩:=d;obtain⟨a2,a7,c4⟩:=nr hA ah a0;obtain⟨a4,b0,c7⟩:=nr hA bn a3;refine ak (az:=[.agg [.sl 1 a2,.sl 2 a4],.ii sector,.ii at_,.str t]) (by subst a7 b0;rfl) ?_;have iy:=hd;obtain⟨cN,dO,eV,dx,ew⟩:=hd;have cN:1<=aaK a0:=cN;have dO:aaK a0<=100:=dO;have eV:aaK a3<=60:=eV;have dx:∀ s∈a0,s.size=32:=dx;have ew:∀ w∈a3,0<=w.At/\w.At < (a0.length:Int)/\w.Text.size=32:=ew;have hc:a3=[]:=hc;have h1:sector < (a0.length:Int):=h1;have h3:sector * 32+at_+(t.size:Int)<=32 * (a0.length:Int):=h3;have hde:eM ⟨a0,[]⟩:=by rw[hc] at iy;exact iy
 have hz:∀ k∈db (⟨a0,a3⟩:bj),k<=1048576:=su iy;have zt:=aS hA t;refine aY Tryz.func90 ?_;refine gx hA 3 ?_;refine gs (gr (rn hA 1 ?_));obtain⟨b1,b2,b3,b4,aJ⟩:=yI (aaN ah a0) (aaN aU a3) (oL A hA (⟨a0,a3⟩:bj) (by assumption));have c3:=ab hA b3;have c6:=ab hA b4;refine aH aJ (.inr rfl) ?_ (hv:=by subst a7 b0;rfl);refine rz hA 2 ?_;refine gs (gs (gr (rn hA 1 ?_)));have cL:=ff A hA at_ 0 3200 (by omega) (by omega);refine aH cL (.inr rfl) ?_;refine rn hA 2 ?_;refine ag 24 rfl (λc5=>?_) (λc5=>?_)
 ·
  exact ay c5 (by subst hA;rfl)
 refine rn hA 5 ?_;have fq:=ff A hA sector 0 (A.num .sub .i64 (A.ao a2) 1) (by omega) (by rw[dE hA (by omega) (by omega)];omega);refine fC fq (.inr rfl) ?_;refine rn hA 3 ?_;refine ag 33 rfl (λc8=>?_) (λc8=>?_)
 ·
  exact ay c8 (by subst hA;rfl)
 refine rn hA 1 ?_;have e1:=nk A hA (⟨a0,a3⟩:bj) (by assumption);refine fC e1 (.inr rfl) ?_ (hv:=by subst a7 b0;rfl);refine rz hA 2 ?_;refine gc (λcf=>?_) (λcf=>?_)
 ·
  exact ay cf (by subst hA;rfl)
 refine gk (gs (gx hA 1 ?_));refine af ?_;refine aF (λσ m=>∃(i:Nat) (ws:List br) (n1:Int) (RS RC:RR),σ=(ZH sector at_ t n1 a2 a4 RS RC)/\(n1=(i:Int)/\RS=aaN ah a0/\RC=aaN aU ws/\wX a0 (aaO sector) (aaO at_) t i ws)/\m=t.size - i) _ [.up 1020,.up 20,.up 10,.up 8,.up 4] [1,2,3,4,8,10,11] [4,8,10,20,1020] _ rfl (by cbv) ⟨0,[],0,b1,b2,rfl,?_,rfl⟩ (λσ m hI=>?_)
 ·
  exact⟨rfl,by assumption,by rw[<- hc];assumption,Q7 ..⟩
 obtain⟨i,ws,n1,RS,RC,rfl,⟨ej,LL,LM,hI⟩,rfl⟩:=hI;have hi0:=hI.1;refine gs (gx hA 4 ?_);refine gc (λcZ=>?_) (λcZ=>?_)
 ·
  have c9:n1 < (A.bA t):=aP hA cZ;refine gk (af (gs ?_));have hlt:i < t.size:=by omega
  have wn:A.num .add .i64 at_ n1=at_+(i:Int):=by rw[au hA (by omega) (by omega)];omega
  obtain⟨q,r,k0,hq,hr,Kv,g1,g2,g3,g4,g5,g6⟩:=Nq (aaO at_) t i hlt;have wq:A.num .quo .i64 (A.num .add .i64 at_ n1) 32=(q:Int):=by rw[xM hA (by unfold i64;omega) (by omega),abF (by omega)];omega
  have wm:A.num .rem .i64 (A.num .add .i64 at_ n1) 32=(r:Int):=by rw[G8 hA,Int.tmod_eq_emod_of_nonneg (by omega)];omega
  have wk:A.num .add .i64 sector (A.num .quo .i64 (A.num .add .i64 at_ n1) 32)=sector+(q:Int):=by rw[au hA (by omega) (by omega)];omega
  have wK:Hid (A.num .add .i64 sector (A.num .quo .i64 (A.num .add .i64 at_ n1) 32)=(((aaO sector)+((aaO at_)+i) / 32:Nat):Int)):=by unfold Hid at hq ⊢;omega
  obtain⟨Q8,Xn⟩:=Nr hI hde h4;have Q9:0<=A.num .add .i64 sector (A.num .quo .i64 (A.num .add .i64 at_ n1) 32):=by omega
  have Ra:A.num .add .i64 sector (A.num .quo .i64 (A.num .add .i64 at_ n1) 32) < (a0.length:Int):=by omega
  refine gy hA 7 ?_;refine gx hA 5 ?_;refine gx hA 3 ?_;refine gs (gx hA 6 ?_);refine aae (Φ:=λσ=>∃(k1:Int),σ=({sl:=.aa::.ii sector::.ii at_::.str t::.pt 4 0 0::dV++.pt 8 0 0::.aa::.pt 10 0 0::.ii n1::.ii (A.num .add .i64 sector (A.num .quo .i64 (A.num .add .i64 at_ n1) 32))::.ii (A.num .rem .i64 (A.num .add .i64 at_ n1) 32)::.ii k1::Ti++.ii n1::.str t::.ii (A.bA t)::.bool (A.cmp .lss n1 (A.bA t))::.ii sector::.ii at_::.ii n1::.ii (A.num .add .i64 at_ n1)::.ii (A.num .quo .i64 (A.num .add .i64 at_ n1) 32)::.ii (A.num .add .i64 sector (A.num .quo .i64 (A.num .add .i64 at_ n1) 32))::.ii at_::.ii n1::.ii (A.num .add .i64 at_ n1)::.ii (A.num .rem .i64 (A.num .add .i64 at_ n1) 32)::.ii (A.num .rem .i64 (A.num .add .i64 at_ n1) 32)::.ii (A.num .sub .i64 32 (A.num .rem .i64 (A.num .add .i64 at_ n1) 32))::.ii (A.num .sub .i64 32 (A.num .rem .i64 (A.num .add .i64 at_ n1) 32))::.str t::.ii (A.bA t)::.ii n1::.ii (A.num .sub .i64 (A.bA t) n1)::.bool (A.cmp .gtr (A.num .sub .i64 32 (A.num .rem .i64 (A.num .add .i64 at_ n1) 32)) (A.num .sub .i64 (A.bA t) n1))::Tq,bl:=[(4,⟨.var,2,[[.sl 1 a2,.sl 2 a4]]⟩),(8,⟨.var,2,[[.zc,.zc]]⟩),(10,⟨.var,2,[[.own 20,.own 1020]]⟩),(20,⟨.arr,1,RS⟩),(1020,⟨.arr,2,RC⟩)]}:St)/\(k1=(k0:Int))) (λσ h=>?_) ?_
  ·
   obtain⟨k1,rfl,hj⟩:=h;refine gs (gr (rn hA 2 ?_));obtain⟨a1,b5,e3⟩:∃(a1:ByteArray),a1=(lq (A.num .add .i64 sector (A.num .quo .i64 (A.num .add .i64 at_ n1) 32)) (kI (a0) (A.num .add .i64 sector (A.num .quo .i64 (A.num .add .i64 at_ n1) 32))) (ws))/\al 149 [.agg [.sl 1 (ar RS),.sl 2 (ar RC)],.ii (A.num .add .i64 sector (A.num .quo .i64 (A.num .add .i64 at_ n1) 32))] (.aw [.str a1,.bool true]):=⟨_,rfl,by subst LL LM;simp only[bS,cE];exact te A hA (⟨(a0),(ws)⟩:bj) (A.num .add .i64 sector (A.num .quo .i64 (A.num .add .i64 at_ n1) 32)) Q8 Q9 Ra⟩;refine aH e3 (.inl (by simp only[fresh,cj,and_self])) ?_;refine rz hA 5 ?_;refine gs (gs ?_);have ho:a1=kI a0 (A.num .add .i64 sector (A.num .quo .i64 (A.num .add .i64 at_ n1) 32)):=by rw[b5,LN hI hlt wK]
   have zo:aaL a1=32:=by rw[ho];exact qZ dx _
   have zy:=aS hA a1;refine gr (rn hA 3 ?_);refine ag 73 rfl (λeL=>?_) (λeL=>?_)
   ·
    exact ay eL (by subst hA;rfl)
   refine rz hA 4 ?_;refine gc (λiA=>?_) (λiA=>?_)
   ·
    have d6:(A.bA a1)≠32:=gp hA iA;exfalso;omega
   have d6:(A.bA a1)=32:=gq hA iA;refine gk (gs ?_);have wa:A.num .add .i64 (A.num .rem .i64 (A.num .add .i64 at_ n1) 32) k1=(r:Int)+(k0:Int):=by rw[au hA (by omega) (by omega)];omega
   have we:A.num .add .i64 n1 k1=(i:Int)+(k0:Int):=by rw[au hA (by omega) (by omega)];omega
   refine cR [0,1,2,3,4,5,6,7,8,9,10,11,12,13,14,15,16,17,18,19,20,23,21,22,24] (by cbv) ?_;refine cH hA 4 ?_;obtain⟨qi,c0⟩:=nm (abE a1 0 (aaO (A.num .rem .i64 (A.num .add .i64 at_ n1) 32)):ByteArray);have e0:(0:Int)<=(A.num .rem .i64 (A.num .add .i64 at_ n1) 32):=by omega
   have d5:(A.num .rem .i64 (A.num .add .i64 at_ n1) 32)<=(aaL a1:Int):=by omega
   have e6:(aaL qi:Int)=(A.num .rem .i64 (A.num .add .i64 at_ n1) 32):=by rw[c0,aa3];omega
   refine oe rfl rfl (Dk rfl rfl rfl rfl e0 d5 c0) ?_;refine cH hA 5 ?_;obtain⟨Fz,c1⟩:=nm (abE t (aaO n1) (aaO (A.num .add .i64 n1 k1)):ByteArray);have d3:(0:Int)<=n1:=by omega
   have d7:n1<=(A.num .add .i64 n1 k1):=by omega
   have d2:(A.num .add .i64 n1 k1)<=(aaL t:Int):=by omega
   have e8:(aaL Fz:Int)=(A.num .add .i64 n1 k1) - n1:=by rw[c1,aa3];omega
   refine oe rfl rfl (tQ rfl rfl rfl rfl rfl d3 d7 d2 c1) ?_;obtain⟨vV,b8⟩:=nm (qi++Fz:ByteArray);have e5:aaL vV=aaL qi+aaL Fz:=by rw[b8];exact aaT
   have d1:aaL qi+aaL Fz<=140737488355328:=by
    omega
   refine dc rfl rfl (tP rfl rfl rfl b8 d1) ?_;refine cH hA 4 ?_;obtain⟨sx,b7⟩:=nm (abE a1 (aaO (A.num .add .i64 (A.num .rem .i64 (A.num .add .i64 at_ n1) 32) k1)) (aaL a1):ByteArray);have d8:(0:Int)<=(A.num .add .i64 (A.num .rem .i64 (A.num .add .i64 at_ n1) 32) k1):=by omega
   have e2:(A.num .add .i64 (A.num .rem .i64 (A.num .add .i64 at_ n1) 32) k1)<=(aaL a1:Int):=by omega
   have e7:(aaL sx:Int)=(aaL a1:Int) - (A.num .add .i64 (A.num .rem .i64 (A.num .add .i64 at_ n1) 32) k1):=by rw[b7,aa3];omega
   refine oe rfl rfl (Dl rfl rfl rfl rfl d8 e2 b7) ?_;obtain⟨Bw,b9⟩:=nm (vV++sx:ByteArray);have e4:aaL Bw=aaL vV+aaL sx:=by rw[b9];exact aaT
   have d9:aaL vV+aaL sx<=140737488355328:=by
    omega
   refine dc rfl rfl (tP rfl rfl rfl b9 d9) ?_;obtain⟨a6,a9,a5,a8,d4⟩:=uZ [.agg [.sl 1 (ar RS),.sl 2 (ar RC)],.ii (A.num .add .i64 sector (A.num .quo .i64 (A.num .add .i64 at_ n1) 32)),.str Bw] (aaN ah (a0)) (aaN aU ((ws)++[⟨(A.num .add .i64 sector (A.num .quo .i64 (A.num .add .i64 at_ n1) 32)),Bw⟩])) true (by subst LL LM;simp only[bS,cE];exact Bv A hA (⟨(a0),(ws)⟩:bj) (A.num .add .i64 sector (A.num .quo .i64 (A.num .add .i64 at_ n1) 32)) Bw Q8 Q9 Ra (by omega) Xn);have b6:=ab hA a5;have c2:=ab hA a8;refine nc d4 (.inl (by simp only[fresh,cj,a5,a8,dy,ev,and_self])) ?_;refine cH hA 6 ?_;refine cS (by cbv) ?_;refine gs (gx hA 2 ?_);refine gc (λjW=>?_) (λjW=>?_)
   ·
    exact ay jW (by subst hA;rfl)
   refine gk (gx hA 2 ?_);refine gB (rn hA 4 ?_);refine bY (tw:=[.drop 20,.lr 99 20,.drop 1020,.lr 1099 1020,.up 1020,.up 20,.up 17,.up 10,.up 8,.up 4]) (by cbv) ?_;refine⟨_,_,?_,by cbv,(i+k0),(ws++[piece a0 (aaO sector) (aaO at_) t i]),(A.num .add .i64 n1 k1),a6,a9,rfl,?_,rfl⟩
   ·
    omega
   have hpc:(⟨A.num .add .i64 sector (A.num .quo .i64 (A.num .add .i64 at_ n1) 32),Bw⟩:br)=piece a0 (aaO sector) (aaO at_) t i:=by
    rw[b9,b8];refine LO (m:=k0) (f:=r) wK ho hr Kv ?_ ?_ ?_
    ·rw [c0,wm,Int.toNat_natCast]
    ·rw [c1,we,show aaO n1=i by omega,show aaO ((i:Int)+(k0:Int))=i+k0 by omega]
    rw[b7,wa,show aaO ((r:Int)+(k0:Int))=r+k0 by omega]
   have hW:wX a0 (aaO sector) (aaO at_) t (i+k0) (ws++[piece a0 (aaO sector) (aaO at_) t i]):=by
    have h:=IN dx (by omega) hI hlt;rw[<- (show k0=_ from Kv)] at h;exact h
   exact⟨by rw[we];omega,by assumption,by rw[<- hpc];assumption,hW⟩
  refine gc (λoV=>?_) (λoV=>?_)
  ·
   have d0:(A.num .sub .i64 (A.bA t) n1) < (A.num .sub .i64 32 (A.num .rem .i64 (A.num .add .i64 at_ n1) 32)):=dJ hA oV;refine gB (rn hA 5 ?_);refine bY (tw:=[.aa 61,.aa 62,.aa 63,.aa 64]) (by cbv) ?_;refine⟨(A.num .sub .i64 (A.bA t) n1),rfl,?_⟩;have wb:A.num .sub .i64 32 (A.num .rem .i64 (A.num .add .i64 at_ n1) 32)=32 - (r:Int):=by rw[dE hA (by omega) (by omega)];omega
   have wl:A.num .sub .i64 (A.bA t) n1=(t.size:Int) - (i:Int):=by rw[dE hA (by omega) (by omega)];omega
   omega
  have d0:(A.num .sub .i64 32 (A.num .rem .i64 (A.num .add .i64 at_ n1) 32))<=(A.num .sub .i64 (A.bA t) n1):=dL hA oV;refine gk ?_;refine⟨(A.num .sub .i64 32 (A.num .rem .i64 (A.num .add .i64 at_ n1) 32)),rfl,?_⟩;have wb:A.num .sub .i64 32 (A.num .rem .i64 (A.num .add .i64 at_ n1) 32)=32 - (r:Int):=by rw[dE hA (by omega) (by omega)];omega
  have wl:A.num .sub .i64 (A.bA t) n1=(t.size:Int) - (i:Int):=by rw[dE hA (by omega) (by omega)];omega
  omega
 have c9:(A.bA t)<=n1:=aQ hA cZ;refine aI (gE ?_);refine gx hA 3 ?_;refine rt (gt ?_);show _=PV.aw [.agg [.ow 1 RS,.ow 2 RC],.bool true];rw[LL,LM,LP hI (by omega)];rfl
theorem wc (A:ax)(hA:A=aj)(seg:Int)(h0:0<=seg)(h1:seg<=10):al 180 [.ii seg] (.ii (8+seg * 8)):=by
 refine aY Tryz.func180 ?_;refine gx hA 1 ?_;refine gs (gs (gr (rn hA 1 ?_)));have aJ:=gO A hA seg 0 10 (by omega) (by omega);refine aH aJ (.inr rfl) ?_;refine rz hA 1 ?_;refine gc (λc3=>?_) (λc3=>?_)
 ·
  exact ay c3 (by subst hA;rfl)
 refine gk (gx hA 4 ?_);refine rt (gt ?_);show _=(PV.int .i64 (A.num .add .i64 8 (A.num .mul .i64 seg 8)));refine congrArg (PV.int .i64) ?_;rw[num_mul hA (by unfold i64;omega),au hA (by omega) (by omega)]
theorem xO (A:ax)(hA:A=aj)(d:bj)(seg:Int)(hd:eM d)(hc:d.Cache=[])(h0:0<=seg)(h1:seg<=10)(h2:16+seg * 8<=(d.aD.length:Int)):al 327 [.agg (gf d),.ii seg] (.str (bU (aa8 (aaO 8) (abi (aaO (8+seg * 8)) d.aD)))):=by
 obtain⟨a0,a2⟩:=d;obtain⟨a1,a3,a8⟩:=nr hA ah a0;obtain⟨a5,a4,b0⟩:=nr hA bn a2;refine ak (az:=[.agg [.sl 1 a1,.sl 2 a5],.ii seg]) (by subst a3 a4;rfl) ?_;have iy:=hd;obtain⟨cN,dO,eV,dx,ew⟩:=hd;have cN:1<=aaK a0:=cN;have dO:aaK a0<=100:=dO;have eV:aaK a2<=60:=eV;have dx:∀ s∈a0,s.size=32:=dx;have ew:∀ w∈a2,0<=w.At/\w.At < (a0.length:Int)/\w.Text.size=32:=ew;have hc:a2=[]:=hc;have h2:16+seg * 8<=(a0.length:Int):=h2;have hde:eM ⟨a0,[]⟩:=by rw[hc] at iy;exact iy
 refine aY Tryz.func327 ?_;refine gx hA 2 ?_;refine gs (gs (gr (rn hA 1 ?_)));have aJ:=gO A hA seg 0 10 (by omega) (by omega);refine aH aJ (.inr rfl) ?_;refine rz hA 1 ?_;refine gc (λc3=>?_) (λc3=>?_)
 ·
  exact ay c3 (by subst hA;rfl)
 refine gk (gs ?_);refine cz [0,1,2,3,4,5,7,6,8] (by cbv) ?_;refine bL hA 2 ?_;obtain⟨b6,b9,eu⟩:=tb (wc A hA seg (by omega) (by omega));refine eQ eu (.inr rfl) ?_;obtain⟨b7,b3,fq⟩:=qY (bU (aa8 (aaO 8) (abi (aaO b6) a0))) true (Cp A hA (⟨a0,a2⟩:bj) b6 8 iy hc (by omega) (by omega) (by omega));refine eQ fq (.inr rfl) ?_ (hv:=by subst a3 a4;rfl);refine dz hA 5 ?_;refine gx hA 2 ?_;refine rt (gt ?_);show _=(PV.str b7);simp only[b9,b3]
theorem Jl (A:ax)(hA:A=aj)(d:bj)(n:Int)(h0:5<=n)(h1:n<=11)(h2:(d.aD.length:Int)=8+n * 8):al 293 [.agg (gf d)] (.ii n):=by
 obtain⟨a0,a2⟩:=d;obtain⟨a1,a3,a8⟩:=nr hA ah a0;obtain⟨a5,a4,b0⟩:=nr hA bn a2;refine ak (az:=[.agg [.sl 1 a1,.sl 2 a5]]) (by subst a3 a4;rfl) ?_;have h2:(a0.length:Int)=8+n * 8:=h2;have Ns:A.num .quo .i64 (A.num .sub .i64 (A.ao a1) 8) 8=n:=by
  rw[dE hA (by omega) (by omega),xM hA (by unfold i64;omega) (by omega),abF (by omega)];omega
 refine aY Tryz.func293 ?_;refine gx hA 2 ?_;refine gx hA 6 ?_;refine gs (gs (gr (rn hA 1 ?_)));have aJ:=gO A hA (A.num .quo .i64 (A.num .sub .i64 (A.ao a1) 8) 8) 5 11 (by omega) (by omega);refine aH aJ (.inr rfl) ?_;refine rz hA 1 ?_;refine gc (λc3=>?_) (λc3=>?_)
 ·
  exact ay c3 (by subst hA;rfl)
 refine gk (gx hA 2 ?_);refine rt (gt ?_);show _=(PV.int .i64 (A.num .quo .i64 (A.num .sub .i64 (A.ao a1) 8) 8));refine congrArg (PV.int .i64) ?_;exact Ns.symm
theorem wg (A:ax)(hA:A=aj)(d:bj)(seg at_:Int)(t:ByteArray)(hd:eM d)(hc:d.Cache=[])(h0:0<=seg)(h1:seg<=10)(h2:16+seg * 8<=(d.aD.length:Int))(h3:0<=at_)(h4:at_+(t.size:Int)<=256):al 111 [.agg (gf d),.ii seg,.ii at_,.str t] (.aw [.agg (jo ⟨d.aD,wr d.aD (aaO (8+seg * 8)) (aaO at_) t⟩),.bool true]):=by
 obtain⟨a0,a2⟩:=d;obtain⟨a1,a3,a8⟩:=nr hA ah a0;obtain⟨a5,a4,b0⟩:=nr hA bn a2;refine ak (az:=[.agg [.sl 1 a1,.sl 2 a5],.ii seg,.ii at_,.str t]) (by subst a3 a4;rfl) ?_;have iy:=hd;obtain⟨cN,dO,eV,dx,ew⟩:=hd;have cN:1<=aaK a0:=cN;have dO:aaK a0<=100:=dO;have eV:aaK a2<=60:=eV;have dx:∀ s∈a0,s.size=32:=dx;have ew:∀ w∈a2,0<=w.At/\w.At < (a0.length:Int)/\w.Text.size=32:=ew;have hc:a2=[]:=hc;have h2:16+seg * 8<=(a0.length:Int):=h2;have hde:eM ⟨a0,[]⟩:=by rw[hc] at iy;exact iy
 have zt:=aS hA t;refine aY Tryz.func111 ?_;refine gx hA 3 ?_;refine gs (gs (gr (rn hA 1 ?_)));have aJ:=gO A hA seg 0 10 (by omega) (by omega);refine aH aJ (.inr rfl) ?_;refine rn hA 2 ?_;refine ag 13 rfl (λc3=>?_) (λc3=>?_)
 ·
  exact ay c3 (by subst hA;rfl)
 refine rn hA 1 ?_;have eu:=gO A hA at_ 0 256 (by omega) (by omega);refine fC eu (.inr rfl) ?_;refine rn hA 3 ?_;refine ag 18 rfl (λc6=>?_) (λc6=>?_)
 ·
  exact ay c6 (by subst hA;rfl)
 refine rz hA 6 ?_;refine gc (λc7=>?_) (λc7=>?_)
 ·
  have jx:(A.num .sub .i64 256 at_) < (A.bA t):=dJ hA c7;exfalso;rw[dE hA (by omega) (by omega)] at jx;omega
 have jx:(A.bA t)<=(A.num .sub .i64 256 at_):=dL hA c7;refine gk (gs ?_);refine cR [0,1,2,3,4,5,6,7,8,9] (by cbv) ?_;refine cH hA 2 ?_;obtain⟨b5,b8,kA⟩:=tb (wc A hA seg (by omega) (by omega));refine CG kA (.inr rfl) ?_;refine cH hA 2 ?_;obtain⟨a9,b1,a6,a7,c0⟩:=FA (aaN ah a0) (aaN aU (wr a0 (aaO b5) (aaO at_) t)) true (tf A hA (⟨a0,a2⟩:bj) b5 at_ t iy hc (by omega) (by omega) (by omega) (by omega) (by omega));have b2:=ab hA a6;have b4:=ab hA a7;refine nc c0 (.inr rfl) ?_ (hv:=by subst a3 a4;rfl);refine cH hA 4 ?_;refine cS (by cbv) ?_;refine rt (gt ?_);show _=PV.aw [.agg [.ow 1 a9,.ow 2 b1],.bool true];simp only[a6,a7,b8];rfl
theorem wh (A:ax)(hA:A=aj)(seg:Int)(h0:0<=seg)(h1:seg<=10):al 146 [.ii seg] (.ii (8+seg * 8)):=by
 refine aY Tryz.func146 ?_;refine gx hA 1 ?_;refine gs (gs (gr (rn hA 1 ?_)));have aJ:=ff A hA seg 0 10 (by omega) (by omega);refine aH aJ (.inr rfl) ?_;refine rz hA 1 ?_;refine gc (λc3=>?_) (λc3=>?_)
 ·
  exact ay c3 (by subst hA;rfl)
 refine gk (gx hA 4 ?_);refine rt (gt ?_);show _=(PV.int .i64 (A.num .add .i64 8 (A.num .mul .i64 seg 8)));refine congrArg (PV.int .i64) ?_;rw[num_mul hA (by unfold i64;omega),au hA (by omega) (by omega)]
theorem xP (A:ax)(hA:A=aj)(d:bj)(seg:Int)(hd:eM d)(hc:d.Cache=[])(h0:0<=seg)(h1:seg<=10)(h2:16+seg * 8<=(d.aD.length:Int)):al 272 [.agg (gf d),.ii seg] (.str (bU (aa8 (aaO 8) (abi (aaO (8+seg * 8)) d.aD)))):=by
 obtain⟨a0,a2⟩:=d;obtain⟨a1,a3,a8⟩:=nr hA ah a0;obtain⟨a5,a4,b0⟩:=nr hA bn a2;refine ak (az:=[.agg [.sl 1 a1,.sl 2 a5],.ii seg]) (by subst a3 a4;rfl) ?_;have iy:=hd;obtain⟨cN,dO,eV,dx,ew⟩:=hd;have cN:1<=aaK a0:=cN;have dO:aaK a0<=100:=dO;have eV:aaK a2<=60:=eV;have dx:∀ s∈a0,s.size=32:=dx;have ew:∀ w∈a2,0<=w.At/\w.At < (a0.length:Int)/\w.Text.size=32:=ew;have hc:a2=[]:=hc;have h2:16+seg * 8<=(a0.length:Int):=h2;have hde:eM ⟨a0,[]⟩:=by rw[hc] at iy;exact iy
 refine aY Tryz.func272 ?_;refine gx hA 2 ?_;refine gs (gs (gr (rn hA 1 ?_)));have aJ:=ff A hA seg 0 10 (by omega) (by omega);refine aH aJ (.inr rfl) ?_;refine rz hA 1 ?_;refine gc (λc3=>?_) (λc3=>?_)
 ·
  exact ay c3 (by subst hA;rfl)
 refine gk (gs ?_);refine cz [0,1,2,3,4,5,7,6,8] (by cbv) ?_;refine bL hA 2 ?_;obtain⟨b6,b9,eu⟩:=tb (wh A hA seg (by omega) (by omega));refine eQ eu (.inr rfl) ?_;obtain⟨b7,b3,fq⟩:=qY (bU (aa8 (aaO 8) (abi (aaO b6) a0))) true (Cq A hA (⟨a0,a2⟩:bj) b6 8 iy hc (by omega) (by omega) (by omega));refine eQ fq (.inr rfl) ?_ (hv:=by subst a3 a4;rfl);refine dz hA 5 ?_;refine gx hA 2 ?_;refine rt (gt ?_);show _=(PV.str b7);simp only[b9,b3]
theorem Jm (A:ax)(hA:A=aj)(d:bj)(n:Int)(h0:5<=n)(h1:n<=11)(h2:(d.aD.length:Int)=8+n * 8):al 166 [.agg (gf d)] (.ii n):=by
 obtain⟨a0,a2⟩:=d;obtain⟨a1,a3,a8⟩:=nr hA ah a0;obtain⟨a5,a4,b0⟩:=nr hA bn a2;refine ak (az:=[.agg [.sl 1 a1,.sl 2 a5]]) (by subst a3 a4;rfl) ?_;have h2:(a0.length:Int)=8+n * 8:=h2;have Ns:A.num .quo .i64 (A.num .sub .i64 (A.ao a1) 8) 8=n:=by
  rw[dE hA (by omega) (by omega),xM hA (by unfold i64;omega) (by omega),abF (by omega)];omega
 refine aY Tryz.func166 ?_;refine gx hA 2 ?_;refine gx hA 6 ?_;refine gs (gs (gr (rn hA 1 ?_)));have aJ:=ff A hA (A.num .quo .i64 (A.num .sub .i64 (A.ao a1) 8) 8) 5 11 (by omega) (by omega);refine aH aJ (.inr rfl) ?_;refine rz hA 1 ?_;refine gc (λc3=>?_) (λc3=>?_)
 ·
  exact ay c3 (by subst hA;rfl)
 refine gk (gx hA 2 ?_);refine rt (gt ?_);show _=(PV.int .i64 (A.num .quo .i64 (A.num .sub .i64 (A.ao a1) 8) 8));refine congrArg (PV.int .i64) ?_;exact Ns.symm
theorem wj (A:ax)(hA:A=aj)(d:bj)(seg at_:Int)(t:ByteArray)(hd:eM d)(hc:d.Cache=[])(h0:0<=seg)(h1:seg<=10)(h2:16+seg * 8<=(d.aD.length:Int))(h3:0<=at_)(h4:at_+(t.size:Int)<=256):al 85 [.agg (gf d),.ii seg,.ii at_,.str t] (.aw [.agg (jo ⟨d.aD,wr d.aD (aaO (8+seg * 8)) (aaO at_) t⟩),.bool true]):=by
 obtain⟨a0,a2⟩:=d;obtain⟨a1,a3,a8⟩:=nr hA ah a0;obtain⟨a5,a4,b0⟩:=nr hA bn a2;refine ak (az:=[.agg [.sl 1 a1,.sl 2 a5],.ii seg,.ii at_,.str t]) (by subst a3 a4;rfl) ?_;have iy:=hd;obtain⟨cN,dO,eV,dx,ew⟩:=hd;have cN:1<=aaK a0:=cN;have dO:aaK a0<=100:=dO;have eV:aaK a2<=60:=eV;have dx:∀ s∈a0,s.size=32:=dx;have ew:∀ w∈a2,0<=w.At/\w.At < (a0.length:Int)/\w.Text.size=32:=ew;have hc:a2=[]:=hc;have h2:16+seg * 8<=(a0.length:Int):=h2;have hde:eM ⟨a0,[]⟩:=by rw[hc] at iy;exact iy
 have zt:=aS hA t;refine aY Tryz.func85 ?_;refine gx hA 3 ?_;refine gs (gs (gr (rn hA 1 ?_)));have aJ:=ff A hA seg 0 10 (by omega) (by omega);refine aH aJ (.inr rfl) ?_;refine rn hA 2 ?_;refine ag 13 rfl (λc3=>?_) (λc3=>?_)
 ·
  exact ay c3 (by subst hA;rfl)
 refine rn hA 1 ?_;have eu:=ff A hA at_ 0 256 (by omega) (by omega);refine fC eu (.inr rfl) ?_;refine rn hA 3 ?_;refine ag 18 rfl (λc6=>?_) (λc6=>?_)
 ·
  exact ay c6 (by subst hA;rfl)
 refine rz hA 6 ?_;refine gc (λc7=>?_) (λc7=>?_)
 ·
  have jx:(A.num .sub .i64 256 at_) < (A.bA t):=dJ hA c7;exfalso;rw[dE hA (by omega) (by omega)] at jx;omega
 have jx:(A.bA t)<=(A.num .sub .i64 256 at_):=dL hA c7;refine gk (gs ?_);refine cR [0,1,2,3,4,5,6,7,8,9] (by cbv) ?_;refine cH hA 2 ?_;obtain⟨b5,b8,kA⟩:=tb (wh A hA seg (by omega) (by omega));refine CG kA (.inr rfl) ?_;refine cH hA 2 ?_;obtain⟨a9,b1,a6,a7,c0⟩:=FA (aaN ah a0) (aaN aU (wr a0 (aaO b5) (aaO at_) t)) true (th A hA (⟨a0,a2⟩:bj) b5 at_ t iy hc (by omega) (by omega) (by omega) (by omega) (by omega));have b2:=ab hA a6;have b4:=ab hA a7;refine nc c0 (.inr rfl) ?_ (hv:=by subst a3 a4;rfl);refine cH hA 4 ?_;refine cS (by cbv) ?_;refine rt (gt ?_);show _=PV.aw [.agg [.ow 1 a9,.ow 2 b1],.bool true];simp only[a6,a7,b8];rfl
def WX (p0:Int)(p1:ByteArray)(p2 p3:Int):St:={sl:=.int .u32 p0::.str p1::F3++.ii p2::.ii p3::nE,bl:=[]}
def WY (p0:Int)(p1:ByteArray)(p2 p3 p4:Int):St:={sl:=.int .u32 p0::.str p1::F3++.ii p2::.ii p3::RJ++.ii p4::Jz,bl:=[]}
theorem GR (A:ax)(hA:A=aj)(s:Int)(t:ByteArray)(hz:aaL t<=1048576):al 278 [.int .u32 s,.str t] (.int .u32 (AZ A (fL A) s t)):=by
 refine aY Tryz.func278 ?_;refine gx hA 1 ?_;refine gs (gx hA 3 ?_);refine af ?_;refine aF (λσ m=>∃(i:Nat) (n S:Int),σ=(WX S t (A.bA t) n)/\(n=(i:Int)/\i<=aaL t/\AZ A (fL A) s t=uF A (fL A) t i (aaL t - i) S)/\m=aaL t - i) _ [] [0,1,8,9] [] _ rfl (by cbv) ⟨0,0,s,rfl,?_,rfl⟩ (λσ m hI=>?_)
 ·
  exact⟨rfl,aaW _,rfl⟩
 obtain⟨i,n,S,rfl,⟨hn,hi,hE⟩,rfl⟩:=hI;have zs:=aS hA t;refine gx hA 1 ?_;refine gs ?_;refine gc (λc1=>?_) (λc1=>?_)
 ·
  have aV:n < (A.bA t):=aP hA c1;refine gk (gs (af (gx hA 2 ?_)));refine gs (gr (rn hA 3 ?_));have T2:A.bA t=(aaL t:Int):=aS hA t;have a8:(0:Int)<=n:=by omega
  have a6:n < (aaL t:Int):=by omega
  obtain⟨y2,ta⟩:=nm (bc t n:Int);refine bO rfl rfl (ml rfl rfl rfl rfl a8 a6 ta) ?_;refine rz hA 3 ?_;refine gx hA 1 ?_;refine af ?_;refine aF (λσ m=>∃(j:Nat) (n2 S2:Int),σ=(WY S2 t (A.bA t) n n2)/\(n2=(j:Int)/\j<=8/\rl (fL A) 8 (A.num .xor .u32 S (A.cw .u32 y2))=rl (fL A) (8 - j) S2)/\m=8 - j) _ [] [0,1,8,9,18] [] _ rfl (by cbv) ⟨0,0,(A.num .xor .u32 S (A.cw .u32 y2)),rfl,?_,rfl⟩ (λσ m hI=>?_)
  ·
   exact⟨rfl,aaW _,rfl⟩
  obtain⟨j,n2,S2,rfl,⟨hk,hk8,pW⟩,rfl⟩:=hI;refine gx hA 1 ?_;refine gs ?_;refine gc (λc3=>?_) (λc3=>?_)
  ·
   have cI:n2 < 8:=aP hA c3;refine gk (gs (af (gx hA 4 ?_)));refine gs (gr (rn hA 1 ?_));obtain⟨n4,C7⟩:=nm (acr S2 (2 ^ aaO 1):Int);refine fk rfl (pZ rfl rfl rfl (by decide) (by decide) C7) ?_;refine rz hA 1 ?_;refine gx hA 1 ?_;refine gc (λc5=>?_) (λc5=>?_)
   ·
    have fu:(A.num .and .u32 S2 1)=1:=eE hA c5;refine gy hA 3 ?_;refine gy hA 2 ?_;refine⟨_,_,?_,by cbv,j+1,(A.num .add .i64 n2 1),(A.num .xor .u32 n4 3558460437),rfl,?_,rfl⟩
    ·
     omega
    refine⟨by rw[au hA (by omega) (by omega)];omega,by omega,?_⟩;rw[pW,ER (by omega)];refine congrArg _ ?_;unfold fL;rw[if_pos (show A.cmp .eql (A.num .and .u32 S2 1) 1=true from c5),C7]
   have fu:(A.num .and .u32 S2 1)≠1:=eF hA c5;refine gk (gy hA 2 ?_);refine⟨_,_,?_,by cbv,j+1,(A.num .add .i64 n2 1),n4,rfl,?_,rfl⟩
   ·
    omega
   refine⟨by rw[au hA (by omega) (by omega)];omega,by omega,?_⟩;rw[pW,ER (by omega)];refine congrArg _ ?_;unfold fL;rw[if_neg (by rw[show A.cmp .eql (A.num .and .u32 S2 1) 1=false from c5];decide),C7]
  have cI:8<=n2:=aQ hA c3;refine aI (gE ?_);refine gy hA 2 ?_;refine⟨_,_,?_,by cbv,i+1,(A.num .add .i64 n 1),S2,rfl,?_,rfl⟩
  ·
   omega
  have hI:rl (fL A) 8 (A.num .xor .u32 S (A.cw .u32 y2))=S2:=by rw[pW,show 8 - j=0 by omega];rfl
  refine⟨by rw[au hA (by omega) (by omega)];omega,by omega,?_⟩;rw[hE,MX (by omega),show bc t (i:Int)=y2 from by rw[ta,hn],hI]
 have aV:(A.bA t)<=n:=aQ hA c1;refine aI (gE ?_);refine gx hA 2 ?_;refine rt (gt ?_);refine congrArg (PV.int .u32) ?_;rw[hE,K8 (by omega)]
theorem LD (A:ax)(hA:A=aj)(t:ByteArray)(hz:aaL t<=1048576):al 240 [.str t] (.int .u32 (AZ A (fL A) 4294967295 t)):=by
 refine aY Tryz.func240 ?_;refine gx hA 1 ?_;refine gs (gr (rn hA 1 ?_));obtain⟨a7,a4,aJ⟩:=OZ (GR A hA 4294967295 t (by assumption));refine aH aJ (.inr rfl) ?_;refine rz hA 1 ?_;refine rt (gt ?_);show _=(PV.int .u32 a7);exact congrArg (PV.int .u32) a4.symm
theorem C8 (A:ax)(hA:A=aj)(t:ByteArray)(hz:aaL t<=1048576):al 182 [.str t] (.str (oM A (fL A) t)):=by
 refine aY Tryz.func182 ?_;refine gx hA 1 ?_;refine gs (gr (rn hA 1 ?_));obtain⟨a0,a9,aJ⟩:=OZ (LD A hA t (by assumption));refine aH aJ (.inr rfl) ?_;refine rz hA 1 ?_;refine gs (gr (rn hA 1 ?_));obtain⟨n3,Bq⟩:=nm (acr a0 (2 ^ aaO 24):Int);refine fk rfl (pZ rfl rfl rfl (by decide) (by decide) Bq) ?_;refine rn hA 2 ?_;obtain⟨n4,C7⟩:=nm (acr a0 (2 ^ aaO 16):Int);refine fk rfl (pZ rfl rfl rfl (by decide) (by decide) C7) ?_;refine rn hA 2 ?_;obtain⟨n5,jY⟩:=nm (acr a0 (2 ^ aaO 8):Int);refine fk rfl (pZ rfl rfl rfl (by decide) (by decide) jY) ?_;refine rn hA 3 ?_;obtain⟨r6,kv⟩:=nm ([[.int .u8 (A.cw .u8 n3)],[.int .u8 (A.cw .u8 n4)],[.int .u8 (A.cw .u8 n5)],[.int .u8 (A.cw .u8 a0)]]:RR);have uD:r6=aaN sY ([(A.cw .u8 n3),(A.cw .u8 n4),(A.cw .u8 n5),(A.cw .u8 a0)]:List Int):=by rw[kv];rfl
 have TW:=ab hA uD;refine fk rfl (xi rfl rfl rfl rfl rfl rfl rfl kv) ?_;obtain⟨s7,WZ⟩:=nm (strOfNums ([(A.cw .u8 n3),(A.cw .u8 n4),(A.cw .u8 n5),(A.cw .u8 a0)]:List Int):ByteArray);have zs7:aaL s7=aaK ([(A.cw .u8 n3),(A.cw .u8 n4),(A.cw .u8 n5),(A.cw .u8 a0)]:List Int):=by rw[WZ];exact bg _
 refine bO rfl rfl (xw rfl rfl rfl rfl rfl uD WZ) ?_;refine rz hA 1 ?_;refine rt (gt ?_);refine congrArg PV.str ?_;subst WZ jY C7 Bq a9;rfl
theorem Jk (A:ax)(hA:A=aj)(t:ByteArray)(hz:aaL t<=1048576):al 178 [.str t] (.aw [.str (iK A (fL A) t),.bool (iL t)]):=by
 refine aY Tryz.func178 ?_;refine gx hA 2 ?_;refine gs (gx hA 3 ?_);refine gc (λc1=>?_) (λc1=>?_)
 ·
  have aV:20000 < (A.bA t):=dJ hA c1;refine gx hA 2 ?_;refine rt (gt ?_);show _=PV.aw [.str (aaP #[]),.bool false];have zt:=aS hA t;have E:iL t=false:=by unfold iL;rw[decide_eq_true (show 20000 < (t.size:Int) by omega)];rfl
  have E2:iK A (fL A) t=aaP #[]:=by unfold iK;rw[if_pos (show 20000 < (t.size:Int) by omega)]
  rw[E,E2]
 have aV:(A.bA t)<=20000:=dL hA c1;refine gk (gs (gr (rn hA 2 ?_)));obtain⟨a1,a3,mi⟩:=fe (C8 A hA t (by assumption));refine aH mi (.inr rfl) ?_;obtain⟨s4,Bo⟩:=nm (t++a1:ByteArray);have zs4:aaL s4=aaL t+aaL a1:=by rw[Bo];exact aaT
 have WM:aaL t+aaL a1<=140737488355328:=by
  have h4:aaL a1=4:=by rw[a3];first | exact mF _ _ _ | exact A0 _ _
  omega
 refine zg Bo WM ?_;refine rz hA 2 ?_;refine rt (gt ?_);show _=PV.aw [.str s4,.bool true];have zt:=aS hA t;have E:iL t=true:=by unfold iL;rw[decide_eq_false (show ¬ 20000 < (t.size:Int) by omega)];rfl
 have E2:iK A (fL A) t=s4:=by unfold iK;rw[if_neg (show ¬ 20000 < (t.size:Int) by omega),Bo];subst a3;rfl
 rw[E,E2]
def W1 (p0:Int)(p1:ByteArray)(p2:Int):St:={sl:=.int .u32 p0::.str p1::dV++.ii p2::JA,bl:=[]}
def W2 (p0:Int)(p1:ByteArray)(p2 p3:Int):St:={sl:=.int .u32 p0::.str p1::dV++.ii p2::.ii p3::vh,bl:=[]}
theorem GS (A:ax)(hA:A=aj)(s:Int)(t:ByteArray)(hz:aaL t<=1048576):al 267 [.int .u32 s,.str t] (.int .u32 (AZ A (iw A) s t)):=by
 refine aY Tryz.func267 ?_;refine gx hA 1 ?_;refine gs (gx hA 1 ?_);refine af ?_;refine aF (λσ m=>∃(i:Nat) (n S:Int),σ=(W1 S t n)/\(n=(i:Int)/\i<=aaL t/\AZ A (iw A) s t=uF A (iw A) t i (aaL t - i) S)/\m=aaL t - i) _ [] [0,1,5] [] _ rfl (by cbv) ⟨0,0,s,rfl,?_,rfl⟩ (λσ m hI=>?_)
 ·
  exact⟨rfl,aaW _,rfl⟩
 obtain⟨i,n,S,rfl,⟨hn,hi,hE⟩,rfl⟩:=hI;have zs:=aS hA t;refine gs (gx hA 4 ?_);refine gc (λc1=>?_) (λc1=>?_)
 ·
  have aV:n < (A.bA t):=aP hA c1;refine gk (gs (af (gs (gr (rn hA 3 ?_)))));have T2:A.bA t=(aaL t:Int):=aS hA t;have a8:(0:Int)<=n:=by omega
  have a6:n < (aaL t:Int):=by omega
  obtain⟨y2,ta⟩:=nm (bc t n:Int);refine bO rfl rfl (ml rfl rfl rfl rfl a8 a6 ta) ?_;refine rz hA 3 ?_;refine gx hA 1 ?_;refine af ?_;refine aF (λσ m=>∃(j:Nat) (n2 S2:Int),σ=(W2 S2 t n n2)/\(n2=(j:Int)/\j<=8/\rl (iw A) 8 (A.num .xor .u32 S (A.cw .u32 y2))=rl (iw A) (8 - j) S2)/\m=8 - j) _ [] [0,1,5,6] [] _ rfl (by cbv) ⟨0,0,(A.num .xor .u32 S (A.cw .u32 y2)),rfl,?_,rfl⟩ (λσ m hI=>?_)
  ·
   exact⟨rfl,aaW _,rfl⟩
  obtain⟨j,n2,S2,rfl,⟨hk,hk8,pW⟩,rfl⟩:=hI;refine gs (gx hA 2 ?_);refine gc (λc3=>?_) (λc3=>?_)
  ·
   have cI:n2 < 8:=aP hA c3;refine gk (gs (af (gx hA 4 ?_)));refine gx hA 3 ?_;refine gx hA 1 ?_;refine gc (λc4=>?_) (λc4=>?_)
   ·
    have du:(A.num .rem .u32 S2 2)=1:=eE hA c4;refine gy hA 3 ?_;refine gy hA 3 ?_;refine⟨_,_,?_,by cbv,j+1,(A.num .add .i64 n2 1),(A.num .xor .u32 (A.num .quo .u32 S2 2) 3558460437),rfl,?_,rfl⟩
    ·
     omega
    refine⟨by rw[au hA (by omega) (by omega)];omega,by omega,?_⟩;rw[pW,ER (by omega)];refine congrArg _ ?_;unfold iw;rw[if_pos (show A.cmp .eql (A.num .rem .u32 S2 2) 1=true from c4)]
   have du:(A.num .rem .u32 S2 2)≠1:=eF hA c4;refine gk (gy hA 3 ?_);refine⟨_,_,?_,by cbv,j+1,(A.num .add .i64 n2 1),(A.num .quo .u32 S2 2),rfl,?_,rfl⟩
   ·
    omega
   refine⟨by rw[au hA (by omega) (by omega)];omega,by omega,?_⟩;rw[pW,ER (by omega)];refine congrArg _ ?_;unfold iw;rw[if_neg (by rw[show A.cmp .eql (A.num .rem .u32 S2 2) 1=false from c4];decide)]
  have cI:8<=n2:=aQ hA c3;refine aI (gE ?_);refine gy hA 3 ?_;refine⟨_,_,?_,by cbv,i+1,(A.num .add .i64 n 1),S2,rfl,?_,rfl⟩
  ·
   omega
  have hI:rl (iw A) 8 (A.num .xor .u32 S (A.cw .u32 y2))=S2:=by rw[pW,show 8 - j=0 by omega];rfl
  refine⟨by rw[au hA (by omega) (by omega)];omega,by omega,?_⟩;rw[hE,MX (by omega),show bc t (i:Int)=y2 from by rw[ta,hn],hI]
 have aV:(A.bA t)<=n:=aQ hA c1;refine aI (gE ?_);refine gx hA 2 ?_;refine rt (gt ?_);refine congrArg (PV.int .u32) ?_;rw[hE,K8 (by omega)]
theorem LF (A:ax)(hA:A=aj)(t:ByteArray)(hz:aaL t<=1048576):al 226 [.str t] (.int .u32 (AZ A (iw A) 4294967295 t)):=by
 refine aY Tryz.func226 ?_;refine gx hA 1 ?_;refine gs (gr (rn hA 1 ?_));obtain⟨a7,a4,aJ⟩:=OZ (GS A hA 4294967295 t (by assumption));refine aH aJ (.inr rfl) ?_;refine rz hA 1 ?_;refine rt (gt ?_);show _=(PV.int .u32 a7);exact congrArg (PV.int .u32) a4.symm
theorem GU (A:ax)(hA:A=aj)(x:Int):al 225 [.int .u32 x] (.str (OR A x)):=by
 refine aY Tryz.func225 ?_;refine gx hA 1 ?_;refine gs (gr (rn hA 1 ?_));obtain⟨n1,ej⟩:=nm (acr x (2 ^ aaO 24):Int);refine fk rfl (pZ rfl rfl rfl (by decide) (by decide) ej) ?_;refine rn hA 2 ?_;obtain⟨n2,nG⟩:=nm (acr x (2 ^ aaO 16):Int);refine fk rfl (pZ rfl rfl rfl (by decide) (by decide) nG) ?_;refine rn hA 2 ?_;obtain⟨n3,Bq⟩:=nm (acr x (2 ^ aaO 8):Int);refine fk rfl (pZ rfl rfl rfl (by decide) (by decide) Bq) ?_;refine rn hA 3 ?_;obtain⟨r4,gh⟩:=nm ([[.int .u8 (A.cw .u8 n1)],[.int .u8 (A.cw .u8 n2)],[.int .u8 (A.cw .u8 n3)],[.int .u8 (A.cw .u8 x)]]:RR);have vF:r4=aaN sY ([(A.cw .u8 n1),(A.cw .u8 n2),(A.cw .u8 n3),(A.cw .u8 x)]:List Int):=by rw[gh];rfl
 have TR:=ab hA vF;refine fk rfl (xi rfl rfl rfl rfl rfl rfl rfl gh) ?_;obtain⟨s5,Br⟩:=nm (strOfNums ([(A.cw .u8 n1),(A.cw .u8 n2),(A.cw .u8 n3),(A.cw .u8 x)]:List Int):ByteArray);have zs5:aaL s5=aaK ([(A.cw .u8 n1),(A.cw .u8 n2),(A.cw .u8 n3),(A.cw .u8 x)]:List Int):=by rw[Br];exact bg _
 refine bO rfl rfl (xw rfl rfl rfl rfl rfl vF Br) ?_;refine rz hA 1 ?_;refine rt (gt ?_);refine congrArg PV.str ?_;subst Br Bq nG ej;rfl
theorem zG (A:ax)(hA:A=aj)(t:ByteArray)(hz:aaL t<=1048576):al 144 [.str t] (.aw [.str (iK A (iw A) t),.bool (iL t)]):=by
 refine aY Tryz.func144 ?_;refine gx hA 2 ?_;refine gs (gx hA 3 ?_);refine gc (λc1=>?_) (λc1=>?_)
 ·
  have aV:20000 < (A.bA t):=dJ hA c1;refine gx hA 2 ?_;refine rt (gt ?_);show _=PV.aw [.str (aaP #[]),.bool false];have zt:=aS hA t;have E:iL t=false:=by unfold iL;rw[decide_eq_true (show 20000 < (t.size:Int) by omega)];rfl
  have E2:iK A (iw A) t=aaP #[]:=by unfold iK;rw[if_pos (show 20000 < (t.size:Int) by omega)]
  rw[E,E2]
 have aV:(A.bA t)<=20000:=dL hA c1;refine gk (gs (gr (rn hA 2 ?_)));obtain⟨a1,a3,mi⟩:=OZ (LF A hA t (by assumption));refine aH mi (.inr rfl) ?_;obtain⟨a2,a5,eu⟩:=fe (GU A hA a1);refine aH eu (.inr rfl) ?_;obtain⟨s6,Bs⟩:=nm (t++a2:ByteArray);have zs6:aaL s6=aaL t+aaL a2:=by rw[Bs];exact aaT
 have bs6:aaL t+aaL a2<=140737488355328:=by
  have h4:aaL a2=4:=by rw[a5];first | exact mF _ _ _ | exact A0 _ _
  omega
 refine zg Bs bs6 ?_;refine rz hA 2 ?_;refine rt (gt ?_);show _=PV.aw [.str s6,.bool true];have zt:=aS hA t;have E:iL t=true:=by unfold iL;rw[decide_eq_false (show ¬ 20000 < (t.size:Int) by omega)];rfl
 have E2:iK A (iw A) t=s6:=by unfold iK;rw[if_neg (show ¬ 20000 < (t.size:Int) by omega),Bs];subst a5 a3;rfl
 rw[E,E2]
def W5 (p0:ByteArray)(p1 p2 p3 p4 p5 p6 p7:Int)(p8 p9 fj:ByteArray)(fc:RR):St:={sl:=.aa::.pt 1 0 0::.aa::.aa::.str p0::rP++.own 25::.ii p1::.ii p2::BL,bl:=[(1,⟨.var,8,[[.ii p3,.ii p4,.ii p5,.ii p6,.ii p7,.str p8,.str p9,.str fj]]⟩),(25,⟨.arr,1,fc⟩)]}
def W6 (p0:ByteArray)(p1 p2:Int)(p3:RR):St:={sl:=iB++.str p0::Tm++.own 42::.ii p1::.ii p2::Jz,bl:=[(42,⟨.arr,1,p3⟩)]}
theorem GV (A:ax)(hA:A=aj)(r:aE)(hz:∀ q∈eH r,q<=1048576):al 209 [.agg (gY r)] (.aw [.str (dB A (cn A) r),.bool (bH r)]):=by
 obtain⟨a7,a1,a6,a3,a0,a2,a4,a5⟩:=r;refine ak (az:=[.agg [.ii a7,.ii a1,.ii a6,.ii a3,.ii a0,.str a2,.str a4,.str a5]]) (by rfl) ?_;have OS:aaL a2<=1048576:=hz _ (by simp[eH]);have OT:aaL a4<=1048576:=hz _ (by simp[eH]);have OU:aaL a5<=1048576:=hz _ (by simp[eH]);have Zx:=aS hA a2;have Zy:=aS hA a4;have Zz:=aS hA a5;have zR:∀ q∈eH (⟨a7,a1,a6,a3,a0,a2,a4,a5⟩:aE),(q:Int)<=4611686018427387904:=λq hq=>by have:=hz q hq;omega
 refine aY Tryz.func209 ?_;refine gx hA 3 ?_;refine gs (gs (gr (rn hA 1 ?_)));obtain⟨b9,b4,aJ⟩:=kV (bH (⟨a7,a1,a6,a3,a0,a2,a4,a5⟩:aE)) (qK A hA (⟨a7,a1,a6,a3,a0,a2,a4,a5⟩:aE) zR);refine aH aJ (.inr rfl) ?_;refine rz hA 1 ?_;refine gc (λc3=>?_) (λc3=>?_)
 ·
  have c4:b9=false:=ck hA c3;refine gx hA 2 ?_;refine rt (gt ?_);show _=PV.aw [.str (aaP #[]),.bool false];have E:bH (⟨a7,a1,a6,a3,a0,a2,a4,a5⟩:aE)=false:=by rw[<- b4,c4]
  have E2:dB A (cn A) (⟨a7,a1,a6,a3,a0,a2,a4,a5⟩:aE)=aaP #[]:=by rw[dB,E];rfl
  rw[E,E2]
 have c5:b9=true:=cm hA c3;refine gk (gx hA 6 ?_);refine gs (gs ?_);have E:bH (⟨a7,a1,a6,a3,a0,a2,a4,a5⟩:aE)=true:=by rw[<- b4,c5]
 have hg:=rH E;have hg:(0<=a1/\a1<=10000)/\(0<=a6/\a6<=10000)/\(0<=a3/\a3<=10000)/\(0<=a0/\a0<=10000):=hg;have hns:∀ y∈([a1,a6,a3,a0]:List Int),0<=y/\y<=10000:=by simp;omega
 have n4:aaK ([a1,a6,a3,a0]:List Int)=4:=rfl;have hxs:∀ y∈([a2,a4,a5]:List ByteArray),aaL y<=1048576:=by simp;omega
 have n3:aaK ([a2,a4,a5]:List ByteArray)=3:=rfl;have zB:=vJ hA (A.cw .u8 a7);refine gr (rn hA 8 ?_);obtain⟨r6,kv⟩:=nm ([[.ii a1],[.ii a6],[.ii a3],[.ii a0]]:RR);have uD:r6=aaN bq ([a1,a6,a3,a0]:List Int):=by rw[kv];rfl
 have TW:=ab hA uD;refine fk rfl (xi rfl rfl rfl rfl rfl rfl rfl kv) ?_;refine rz hA 2 ?_;refine af ?_;refine aF (λσ m=>∃(i:Nat) (n:Int) (s1:ByteArray),σ=(W5 s1 (A.ao r6) n a7 a1 a6 a3 a0 a2 a4 a5 r6)/\(n=(i:Int)/\i<=4/\s1=tF (cn A) (A.uw [[.int .u8 (A.cw .u8 a7)]]) (aa8 i ([a1,a6,a3,a0]:List Int))/\aaL s1<=1+5 * i)/\m=4 - i) _ [.up 25,.up 15,.up 1] [1,4,25,26,27] [1,25] _ rfl (by cbv) ⟨0,0,(A.uw [[.int .u8 (A.cw .u8 a7)]]),rfl,?_,rfl⟩ (λσ m hI=>?_)
 ·
  exact⟨rfl,aaW _,rfl,by omega⟩
 obtain⟨i,n,s1,rfl,⟨hn,hi,hS,hSz⟩,rfl⟩:=hI;refine gx hA 1 ?_;refine gs ?_;refine gc (λc7=>?_) (λc7=>?_)
 ·
  have jx:n < (A.ao r6):=aP hA c7;refine gk (gs (af (gs (gr ?_))));obtain⟨e0,e8,x8,Q0,d9⟩:=ga ([a1,a6,a3,a0]:List Int) n (by omega) (by omega);have d2:r6[(aaO n)]? =some [.ii x8]:=by
   exact bC bq uD Q0
  have b3:=Q0;rw[hn] at b3;have b3:(([a1,a6,a3,a0]:List Int))[i]? =some x8:=b3;have e7:=hns _ d9;have d0:n < (aaK r6:Int):=by
   rw[uD,aaS];omega
  refine nH e0 d0 ?_;refine bO rfl rfl (jM rfl rfl rfl rfl d2 rfl) ?_;refine rz hA 1 ?_;refine gr (rn hA 2 ?_);obtain⟨a9,b1,d6⟩:=fe (eY A hA x8 (by omega) (by omega));have e1:aaL a9<=5:=by rw[b1,bg,fx];exact cq _ (by omega)
  refine aH d6 (.inr rfl) ?_;obtain⟨Nl,b7⟩:=nm (s1++a9:ByteArray);have f1:aaL Nl=aaL s1+aaL a9:=by rw[b7];exact aaT
  have d3:aaL s1+aaL a9<=140737488355328:=by
   omega
  refine zg b7 d3 ?_;refine rz hA 1 ?_;refine gy hA 2 ?_;refine⟨_,_,?_,by cbv,i+1,(A.num .add .i64 n 1),Nl,rfl,?_,rfl⟩
  ·
   omega
  refine⟨by rw[au hA (by omega) (by omega)];omega,by omega,?_,by omega⟩;rw[UO b3,b7,hS,b1]
 have jx:(A.ao r6)<=n:=aQ hA c7;refine aI (gE ?_);refine gs (gs (gr (rn hA 6 ?_)));obtain⟨LG,c0⟩:=nm ([[.str a2],[.str a4],[.str a5]]:RR);have b8:LG=aaN ah ([a2,a4,a5]:List ByteArray):=by rw[c0];rfl
 have e5:=ab hA b8;refine fk rfl (xi rfl rfl rfl rfl rfl rfl rfl c0) ?_;refine rz hA 2 ?_;refine af ?_;refine aF (λσ m=>∃(k:Nat) (n2:Int) (s2:ByteArray),σ=(W6 s2 (A.ao LG) n2 LG)/\(n2=(k:Int)/\k<=3/\s2=tG (cn A) s1 (aa8 k ([a2,a4,a5]:List ByteArray))/\aaL s2<=30+1048600 * k)/\m=3 - k) _ [.up 42,.up 25,.up 1] [4,42,43,44] [42] _ rfl (by cbv) ⟨0,0,s1,rfl,?_,rfl⟩ (λσ m hI=>?_)
 ·
  exact⟨rfl,aaW _,rfl,by omega⟩
 obtain⟨k,n2,s2,rfl,⟨hk,hkl,zf,e6⟩,rfl⟩:=hI;refine gx hA 1 ?_;refine gs ?_;refine gc (λdF=>?_) (λdF=>?_)
 ·
  have e2:n2 < (A.ao LG):=aP hA dF;refine gk (gs (af (gs (gr ?_))));obtain⟨c9,e3,nO,c2,d1⟩:=ga ([a2,a4,a5]:List ByteArray) n2 (by omega) (by omega);have c8:LG[(aaO n2)]? =some [.str nO]:=by
   exact bC ah b8 c2
  have b0:=c2;rw[hk] at b0;have b0:(([a2,a4,a5]:List ByteArray))[k]? =some nO:=b0;have e4:=hxs _ d1;have c6:=aS hA nO;have c1:n2 < (aaK LG:Int):=by
   rw[b8,aaS];omega
  refine nH c9 c1 ?_;refine bO rfl rfl (jM rfl rfl rfl rfl c8 rfl) ?_;refine rz hA 1 ?_;refine gr (rn hA 3 ?_);obtain⟨a8,b2,d7⟩:=fe (eY A hA (A.bA nO) (by omega) (by omega));have d4:aaL a8<=5:=by rw[b2,bg,fx];exact cq _ (by omega)
  refine aH d7 (.inr rfl) ?_;refine rn hA 1 ?_;obtain⟨vV,b6⟩:=nm (a8++nO:ByteArray);have e9:aaL vV=aaL a8+aaL nO:=by rw[b6];exact aaT
  have d5:aaL a8+aaL nO<=140737488355328:=by
   omega
  refine zg b6 d5 ?_;obtain⟨sx,b5⟩:=nm (s2++vV:ByteArray);have f0:aaL sx=aaL s2+aaL vV:=by rw[b5];exact aaT
  have d8:aaL s2+aaL vV<=140737488355328:=by
   omega
  refine zg b5 d8 ?_;refine rz hA 1 ?_;refine gy hA 2 ?_;refine⟨_,_,?_,by cbv,k+1,(A.num .add .i64 n2 1),sx,rfl,?_,rfl⟩
  ·
   omega
  refine⟨by rw[au hA (by omega) (by omega)];omega,by omega,?_,by omega⟩;rw[UP b0,b5,zf,b6,b2,c6]
 have e2:(A.ao LG)<=n2:=aQ hA dF;refine aI (gE ?_);refine gx hA 3 ?_;refine rt (gt ?_);show _=PV.aw [.str s2,.bool true];have E2:dB A (cn A) (⟨a7,a1,a6,a3,a0,a2,a4,a5⟩:aE)=s2:=by
  rw[dB,E,if_pos rfl,zf,aaU (by omega),hS,aaU (by omega)];rfl
 rw[E,E2]
theorem nP (A:ax)(hA:A=aj)(t:ByteArray)(hz:aaL t<=1048576):al 148 [.str t] (.str (strOfNums (dp A (aaL t:Int))++t)):=by
 have zt:=aS hA t;refine aY Tryz.func148 ?_;refine gx hA 1 ?_;refine gs (gr (rn hA 2 ?_));obtain⟨a8,b3,aJ⟩:=fe (ef A hA (A.bA t) (by omega) (by omega));have f2:aaL a8<=5:=by rw[b3,bg,eI];exact cq _ (by omega)
 refine aH aJ (.inr rfl) ?_;refine rn hA 1 ?_;obtain⟨s3,IK⟩:=nm (a8++t:ByteArray);have WK:aaL s3=aaL a8+aaL t:=by rw[IK];exact aaT
 have WL:aaL a8+aaL t<=140737488355328:=by
  omega
 refine zg IK WL ?_;refine rz hA 1 ?_;refine rt (gt ?_);refine congrArg PV.str ?_;rw[IK,b3,zt]
theorem xN (A:ax)(hA:A=aj)(r:aE)(hz:∀ q∈eH r,q<=1048576):al 156 [.agg (gY r)] (.aw [.str (dB A (dp A) r),.bool (bH r)]):=by
 obtain⟨a5,a1,a7,a6,a0,a2,a3,a4⟩:=r;refine ak (az:=[.agg [.ii a5,.ii a1,.ii a7,.ii a6,.ii a0,.str a2,.str a3,.str a4]]) (by rfl) ?_;have OS:aaL a2<=1048576:=hz _ (by simp[eH]);have OT:aaL a3<=1048576:=hz _ (by simp[eH]);have OU:aaL a4<=1048576:=hz _ (by simp[eH]);have Zx:=aS hA a2;have Zy:=aS hA a3;have Zz:=aS hA a4;have zR:∀ q∈eH (⟨a5,a1,a7,a6,a0,a2,a3,a4⟩:aE),(q:Int)<=4611686018427387904:=λq hq=>by have:=hz q hq;omega
 refine aY Tryz.func156 ?_;refine gx hA 3 ?_;refine gs (gs (gr (rn hA 1 ?_)));obtain⟨a8,b3,aJ⟩:=kV (bH (⟨a5,a1,a7,a6,a0,a2,a3,a4⟩:aE)) (uC A hA (⟨a5,a1,a7,a6,a0,a2,a3,a4⟩:aE) zR);refine aH aJ (.inr rfl) ?_;refine rz hA 1 ?_;refine gc (λc3=>?_) (λc3=>?_)
 ·
  have c4:a8=false:=ck hA c3;refine gx hA 2 ?_;refine rt (gt ?_);show _=PV.aw [.str (aaP #[]),.bool false];have E:bH (⟨a5,a1,a7,a6,a0,a2,a3,a4⟩:aE)=false:=by rw[<- b3,c4]
  have E2:dB A (dp A) (⟨a5,a1,a7,a6,a0,a2,a3,a4⟩:aE)=aaP #[]:=by rw[dB,E];rfl
  rw[E,E2]
 have c5:a8=true:=cm hA c3;refine gk (gs ?_);have E:bH (⟨a5,a1,a7,a6,a0,a2,a3,a4⟩:aE)=true:=by rw[<- b3,c5]
 have hg:=rH E;have hg:(0<=a1/\a1<=10000)/\(0<=a7/\a7<=10000)/\(0<=a6/\a6<=10000)/\(0<=a0/\a0<=10000):=hg;have zB:=vJ hA (A.cw .u8 a5);refine cz [0,1,2,3,4,5,6,7,8,9,10,11,12,13,14,15,16,17,18,19,20,21,22,23,24,25,26,27,28,29,30,31,32,33,34] (by cbv) ?_;refine bL hA 3 ?_;refine PF rfl rfl rfl rfl rfl rfl (by cbv) rfl rfl ?_;refine bL hA 3 ?_;obtain⟨b6,c2,fq⟩:=fe (ef A hA a1 (by omega) (by omega));have f1:aaL b6<=5:=by rw[c2,bg,eI];exact cq _ (by omega)
 refine eQ fq (.inr rfl) ?_;obtain⟨s8,uU⟩:=nm ((A.uw [[.int .u8 (A.cw .u8 a5)]])++b6:ByteArray);have W7:aaL s8=aaL (A.uw [[.int .u8 (A.cw .u8 a5)]])+aaL b6:=by rw[uU];exact aaT
 have LH:aaL (A.uw [[.int .u8 (A.cw .u8 a5)]])+aaL b6<=140737488355328:=by
  omega
 refine nb uU LH ?_;refine bL hA 2 ?_;obtain⟨b5,c6,e5⟩:=fe (ef A hA a7 (by omega) (by omega));have f0:aaL b5<=5:=by rw[c6,bg,eI];exact cq _ (by omega)
 refine eQ e5 (.inr rfl) ?_;obtain⟨vW,c7⟩:=nm (s8++b5:ByteArray);have f4:aaL vW=aaL s8+aaL b5:=by rw[c7];exact aaT
 have d6:aaL s8+aaL b5<=140737488355328:=by
  omega
 refine nb c7 d6 ?_;refine bL hA 2 ?_;obtain⟨b0,b9,e4⟩:=fe (ef A hA a6 (by omega) (by omega));have d7:aaL b0<=5:=by rw[b9,bg,eI];exact cq _ (by omega)
 refine eQ e4 (.inr rfl) ?_;obtain⟨mL,d1⟩:=nm (vW++b0:ByteArray);have f3:aaL mL=aaL vW+aaL b0:=by rw[d1];exact aaT
 have e2:aaL vW+aaL b0<=140737488355328:=by
  omega
 refine nb d1 e2 ?_;refine bL hA 2 ?_;obtain⟨b4,b7,d3⟩:=fe (ef A hA a0 (by omega) (by omega));have d4:aaL b4<=5:=by rw[b7,bg,eI];exact cq _ (by omega)
 refine eQ d3 (.inr rfl) ?_;obtain⟨qi,d2⟩:=nm (mL++b4:ByteArray);have f5:aaL qi=aaL mL+aaL b4:=by rw[d2];exact aaT
 have e7:aaL mL+aaL b4<=140737488355328:=by
  omega
 refine nb d2 e7 ?_;refine bL hA 2 ?_;obtain⟨b2,c1,e8⟩:=fe (nP A hA a2 (by omega));have e1:aaL b2<=1048600:=by rw[c1,aaT,bg,eI];have:=cq (aaL a2:Int) (by omega);omega
 refine eQ e8 (.inr rfl) ?_;obtain⟨sx,c8⟩:=nm (qi++b2:ByteArray);have f6:aaL sx=aaL qi+aaL b2:=by rw[c8];exact aaT
 have e0:aaL qi+aaL b2<=140737488355328:=by
  omega
 refine nb c8 e0 ?_;refine bL hA 2 ?_;obtain⟨b1,c0,d5⟩:=fe (nP A hA a3 (by omega));have d8:aaL b1<=1048600:=by rw[c0,aaT,bg,eI];have:=cq (aaL a3:Int) (by omega);omega
 refine eQ d5 (.inr rfl) ?_;obtain⟨Uc,c9⟩:=nm (sx++b1:ByteArray);have f8:aaL Uc=aaL sx+aaL b1:=by rw[c9];exact aaT
 have d9:aaL sx+aaL b1<=140737488355328:=by
  omega
 refine nb c9 d9 ?_;refine bL hA 2 ?_;obtain⟨a9,b8,e6⟩:=fe (nP A hA a4 (by omega));have e9:aaL a9<=1048600:=by rw[b8,aaT,bg,eI];have:=cq (aaL a4:Int) (by omega);omega
 refine eQ e6 (.inr rfl) ?_;obtain⟨W8,d0⟩:=nm (Uc++a9:ByteArray);have f7:aaL W8=aaL Uc+aaL a9:=by rw[d0];exact aaT
 have e3:aaL Uc+aaL a9<=140737488355328:=by
  omega
 refine nb d0 e3 ?_;refine dz hA 2 ?_;refine rt (gt ?_);show _=PV.aw [.str W8,.bool true];have E2:dB A (dp A) (⟨a5,a1,a7,a6,a0,a2,a3,a4⟩:aE)=W8:=by
  rw[dB,E,if_pos rfl];simp only[uU,c7,d1,d2,c8,c9,d0,c2,c6,b9,b7,c1,c0,b8];rfl
 rw[E,E2]
theorem rN (A:ax)(hA:A=aj)(f:aC)(hb:aaL f.Body<=10485760):al 177 [.agg (dM f)] (.bool (cU f)):=by
 obtain⟨b0,a9,a8⟩:=f;refine ak (az:=[.agg [.ii b0,.ii a9,.str a8]]) (by rfl) ?_;have zb:=aS hA a8;refine aY Tryz.func177 ?_;refine gx hA 2 ?_;refine gs (gr (rn hA 2 ?_));obtain⟨d5,b4,aJ⟩:=ib (ig A hA b0 1 1000000000);refine aH aJ (.inr rfl) ?_;refine rn hA 1 ?_;refine ag 6 rfl (λc3=>?_) (λc3=>?_)
 ·
  refine rn hA 2 ?_;obtain⟨f8,d8,eu⟩:=ib (ig A hA a9 1 1000000000);refine fC eu (.inr rfl) ?_;refine rn hA 2 ?_;refine ag 11 rfl (λc6=>?_) (λc6=>?_)
  ·
   refine rn hA 3 ?_;obtain⟨f4,e3,jQ⟩:=ib (ig A hA (A.bA a8) 1 180);refine fC jQ (.inr rfl) ?_;refine rz hA 2 ?_;refine rt (gt ?_);refine congrArg PV.bool ?_
   try simp only[aS hA] at *
   subst e3 d8 b4;subst hA;simp[cU,aj,c3,c6]
  refine rz hA 6 ?_;refine rt (gt ?_);refine congrArg PV.bool ?_
  try simp only[aS hA] at *
  subst d8 b4;subst hA;simp[cU,aj,c3,c6]
 refine rz hA 11 ?_;refine rt (gt ?_);refine congrArg PV.bool ?_
 try simp only[aS hA] at *
 subst b4;subst hA;simp[cU,aj,c3]
theorem uV (A:ax)(hA:A=aj)(f:aC)(hb:aaL f.Body<=10485760):al 110 [.agg (dM f)] (.aw [.str (gi A (cn A) (fL A) f),.bool (rp (cn A) f)]):=by
 obtain⟨b0,a9,a8⟩:=f;refine ak (az:=[.agg [.ii b0,.ii a9,.str a8]]) (by rfl) ?_;have zb:=aS hA a8;have hb:aaL a8<=10485760:=hb;refine aY Tryz.func110 ?_;refine gx hA 3 ?_;refine gs (gs (gr (rn hA 1 ?_)));obtain⟨d5,b4,aJ⟩:=kV (cU (⟨b0,a9,a8⟩:aC)) (rN A hA (⟨b0,a9,a8⟩:aC) (by assumption));refine aH aJ (.inr rfl) ?_;refine rz hA 1 ?_;refine gc (λc3=>?_) (λc3=>?_)
 ·
  have c4:d5=false:=ck hA c3;refine gx hA 2 ?_;refine rt (gt ?_);show _=PV.aw [.str (aaP #[]),.bool false];have E:cU (⟨b0,a9,a8⟩:aC)=false:=by rw[<- b4,c4]
  have E1:gi A (cn A) (fL A) (⟨b0,a9,a8⟩:aC)=aaP #[]:=by unfold gi;rw[if_neg (by rw[E];decide)]
  have E2:rp (cn A) (⟨b0,a9,a8⟩:aC)=false:=by unfold rp;rw[E];rfl
  rw[E1,E2]
 have c5:d5=true:=cm hA c3;refine gk (gs ?_);have E:cU (⟨b0,a9,a8⟩:aC)=true:=by rw[<- b4,c5]
 have hg:=A1 E;have hg:1<=b0/\b0<=1000000000/\1<=a9/\a9<=1000000000/\aaL a8<=180:=hg;refine cz [0,1,2,3,4,5,6,7,8,9,10,11,12,13,14,15,16,17,18,19] (by cbv) ?_;refine bL hA 2 ?_;obtain⟨c2,d6,fq⟩:=fe (eY A hA b0 (by omega) (by omega));have f3:aaL c2<=5:=by rw[d6,bg,fx];exact cq _ (by omega)
 refine eQ fq (.inr rfl) ?_;refine bL hA 2 ?_;obtain⟨b9,c7,kA⟩:=fe (eY A hA a9 (by omega) (by omega));have f0:aaL b9<=5:=by rw[c7,bg,fx];exact cq _ (by omega)
 refine eQ kA (.inr rfl) ?_;obtain⟨zH,d0⟩:=nm (c2++b9:ByteArray);have f5:aaL zH=aaL c2+aaL b9:=by rw[d0];exact aaT
 have e9:aaL c2+aaL b9<=140737488355328:=by
  omega
 refine nb d0 e9 ?_;refine bL hA 3 ?_;obtain⟨b6,c0,e8⟩:=fe (eY A hA (A.bA a8) (by omega) (by omega));have e5:aaL b6<=5:=by rw[c0,bg,fx];exact cq _ (by omega)
 refine eQ e8 (.inr rfl) ?_;obtain⟨Fu,d1⟩:=nm (zH++b6:ByteArray);have f7:aaL Fu=aaL zH+aaL b6:=by rw[d1];exact aaT
 have e6:aaL zH+aaL b6<=140737488355328:=by
  omega
 refine nb d1 e6 ?_;refine bL hA 2 ?_;obtain⟨mL,d3⟩:=nm (Fu++a8:ByteArray);have f6:aaL mL=aaL Fu+aaL a8:=by rw[d3];exact aaT
 have e4:aaL Fu+aaL a8<=140737488355328:=by
  omega
 refine nb d3 e4 ?_;obtain⟨d2,d4,b7,b8,e7⟩:=W9 (Jk A hA mL (by omega));refine eQ e7 (.inr rfl) ?_;refine dz hA 4 ?_;refine rt (gt ?_);show _=PV.aw [.str d2,.bool d4];have eb:nN (cn A) (⟨b0,a9,a8⟩:aC)=mL:=by
  simp only[d0,d1,d3,d6,c7,c0,b7,b8];rw[zb];rfl
 have E1:gi A (cn A) (fL A) (⟨b0,a9,a8⟩:aC)=iK A (fL A) mL:=by unfold gi;rw[if_pos E,eb]
 have E2:rp (cn A) (⟨b0,a9,a8⟩:aC)=iL mL:=by unfold rp;rw[E,eb];rfl
 rw[E1,E2];simp only[b7,b8]
theorem uW (A:ax)(hA:A=aj)(f:aC)(hb:aaL f.Body<=10485760):al 127 [.agg (dM f)] (.ii (vl f)):=by
 obtain⟨b0,a9,a8⟩:=f;refine ak (az:=[.agg [.ii b0,.ii a9,.str a8]]) (by rfl) ?_;refine aY Tryz.func127 ?_;refine gx hA 2 ?_;refine gs (gr (rn hA 1 ?_));obtain⟨e0,f2,d9,f1,aJ⟩:=JU (gi A (cn A) (fL A) (⟨b0,a9,a8⟩:aC)) (rp (cn A) (⟨b0,a9,a8⟩:aC)) (uV A hA (⟨b0,a9,a8⟩:aC) (by assumption));refine aH aJ (.inr rfl) ?_;refine rz hA 5 ?_;refine gx hA 3 ?_;refine rt (gt ?_);show _=(PV.int .i64 (A.bA e0));refine congrArg (PV.int .i64) ?_;rw[aS hA,d9];exact(GB (fx A) _).symm
theorem uX (A:ax)(hA:A=aj)(x:ae)(gen:Int)(hz:∀ q∈eH x.Rec,q<=1048576):al 126 [.agg (aW x),.ii gen] (.aw [.agg (dM (oW A (cn A) x gen)),.bool (kX A (cn A) x gen)]):=by
 obtain⟨b1,⟨a4,a1,a7,a6,a0,a2,a3,a5⟩⟩:=x;refine ak (az:=[.agg [.ii b1,.ii a4,.ii a1,.ii a7,.ii a6,.ii a0,.str a2,.str a3,.str a5],.ii gen]) (by rfl) ?_;have hz:∀ q∈eH (⟨a4,a1,a7,a6,a0,a2,a3,a5⟩:aE),q<=1048576:=hz;refine aY Tryz.func126 ?_;refine gx hA 3 ?_;refine gs (gr (rn hA 2 ?_));obtain⟨b2,c1,b3,b5,aJ⟩:=JU (dB A (cn A) (⟨a4,a1,a7,a6,a0,a2,a3,a5⟩:aE)) (bH (⟨a4,a1,a7,a6,a0,a2,a3,a5⟩:aE)) (GV A hA (⟨a4,a1,a7,a6,a0,a2,a3,a5⟩:aE) (by assumption));refine aH aJ (.inr rfl) ?_;refine rz hA 5 ?_;refine gs ?_;have zb:aaL b2<=10485760:=by rw[b3];exact Ir (fx A) hz (vJ hA _)
 refine gy hA 7 ?_;refine gs (gs (gr (rn hA 3 ?_)));refine ag 22 rfl (λc3=>?_) (λc3=>?_)
 ·
  have c4:c1=false:=ck hA c3;refine rz hA 4 ?_;refine gc (λc5=>?_) (λc5=>?_)
  ·
   refine gx hA 3 ?_;refine rt (gt ?_);show _=PV.aw [.agg [.ii 0,.ii 0,.str aaM],.bool false];have e1:bH (⟨a4,a1,a7,a6,a0,a2,a3,a5⟩:aE)=false:=by rw[<- b5,c4]
   have E:kX A (cn A) (⟨b1,⟨a4,a1,a7,a6,a0,a2,a3,a5⟩⟩:ae) gen=false:=by
    unfold kX;show(bH (⟨a4,a1,a7,a6,a0,a2,a3,a5⟩:aE) && _)=_;rw[e1];rfl
   have E3:oW A (cn A) (⟨b1,⟨a4,a1,a7,a6,a0,a2,a3,a5⟩⟩:ae) gen=⟨0,0,aaM⟩:=by
    unfold oW;rw[if_neg (by rw[E];decide)]
   rw[E,E3];rfl
  exact cu c5 (by rfl)
 have c6:c1=true:=cm hA c3;refine rn hA 1 ?_;obtain⟨d7,c8,jQ⟩:=kV (cU (⟨gen,b1,b2⟩:aC)) (rN A hA (⟨gen,b1,b2⟩:aC) (by assumption));refine fC jQ (.inr rfl) ?_;refine rz hA 2 ?_;refine gc (λc9=>?_) (λc9=>?_)
 ·
  have cB:d7=false:=ck hA c9;refine gx hA 3 ?_;refine rt (gt ?_);show _=PV.aw [.agg [.ii 0,.ii 0,.str aaM],.bool false];have e1:bH (⟨a4,a1,a7,a6,a0,a2,a3,a5⟩:aE)=true:=by rw[<- b5,c6]
  have e2:cU (mG A (cn A) (⟨b1,⟨a4,a1,a7,a6,a0,a2,a3,a5⟩⟩:ae) gen)=false:=by
   show cU (⟨gen,b1,dB A (cn A) (⟨a4,a1,a7,a6,a0,a2,a3,a5⟩:aE)⟩:aC)=_;rw[<- b3,<- c8,cB]
  have E:kX A (cn A) (⟨b1,⟨a4,a1,a7,a6,a0,a2,a3,a5⟩⟩:ae) gen=false:=by
   unfold kX;rw[e2];show(bH (⟨a4,a1,a7,a6,a0,a2,a3,a5⟩:aE) && _)=_;rw[e1];rfl
  have E3:oW A (cn A) (⟨b1,⟨a4,a1,a7,a6,a0,a2,a3,a5⟩⟩:ae) gen=⟨0,0,aaM⟩:=by
   unfold oW;rw[if_neg (by rw[E];decide)]
  rw[E,E3];rfl
 have cf:d7=true:=cm hA c9;refine gk (gx hA 3 ?_);refine rt (gt ?_);show _=PV.aw [.agg [.ii gen,.ii b1,.str b2],.bool true];have e1:bH (⟨a4,a1,a7,a6,a0,a2,a3,a5⟩:aE)=true:=by rw[<- b5,c6]
 have e2:cU (mG A (cn A) (⟨b1,⟨a4,a1,a7,a6,a0,a2,a3,a5⟩⟩:ae) gen)=true:=by
  show cU (⟨gen,b1,dB A (cn A) (⟨a4,a1,a7,a6,a0,a2,a3,a5⟩:aE)⟩:aC)=_;rw[<- b3,<- c8,cf]
 have E:kX A (cn A) (⟨b1,⟨a4,a1,a7,a6,a0,a2,a3,a5⟩⟩:ae) gen=true:=by
  unfold kX;rw[e2];show(bH (⟨a4,a1,a7,a6,a0,a2,a3,a5⟩:aE) && _)=_;rw[e1];rfl
 have E3:oW A (cn A) (⟨b1,⟨a4,a1,a7,a6,a0,a2,a3,a5⟩⟩:ae) gen=⟨gen,b1,b2⟩:=by
  unfold oW;rw[if_pos E,b3];rfl
 rw[E,E3];rfl
theorem rO (A:ax)(hA:A=aj)(f:aC)(hb:aaL f.Body<=10485760):al 143 [.agg (dM f)] (.bool (cU f)):=by
 obtain⟨b0,a9,a8⟩:=f;refine ak (az:=[.agg [.ii b0,.ii a9,.str a8]]) (by rfl) ?_;have zb:=aS hA a8;refine aY Tryz.func143 ?_;refine gx hA 2 ?_;refine gs (gr (rn hA 2 ?_));obtain⟨d5,b4,aJ⟩:=ib (et A hA b0 1 1000000000);refine aH aJ (.inr rfl) ?_;refine rn hA 1 ?_;refine ag 6 rfl (λc3=>?_) (λc3=>?_)
 ·
  refine rn hA 2 ?_;obtain⟨f8,d8,eu⟩:=ib (et A hA a9 1 1000000000);refine fC eu (.inr rfl) ?_;refine rn hA 2 ?_;refine ag 11 rfl (λc6=>?_) (λc6=>?_)
  ·
   refine rn hA 3 ?_;obtain⟨f4,e3,jQ⟩:=ib (et A hA (A.bA a8) 1 180);refine fC jQ (.inr rfl) ?_;refine rz hA 2 ?_;refine rt (gt ?_);refine congrArg PV.bool ?_
   try simp only[aS hA] at *
   subst e3 d8 b4;subst hA;simp[cU,aj,c3,c6]
  refine rz hA 6 ?_;refine rt (gt ?_);refine congrArg PV.bool ?_
  try simp only[aS hA] at *
  subst d8 b4;subst hA;simp[cU,aj,c3,c6]
 refine rz hA 11 ?_;refine rt (gt ?_);refine congrArg PV.bool ?_
 try simp only[aS hA] at *
 subst b4;subst hA;simp[cU,aj,c3]
theorem pN (A:ax)(hA:A=aj)(f:aC)(hb:aaL f.Body<=10485760):al 84 [.agg (dM f)] (.aw [.str (gi A (dp A) (iw A) f),.bool (rp (dp A) f)]):=by
 obtain⟨b0,a9,a8⟩:=f;refine ak (az:=[.agg [.ii b0,.ii a9,.str a8]]) (by rfl) ?_;have zb:=aS hA a8;have hb:aaL a8<=10485760:=hb;refine aY Tryz.func84 ?_;refine gx hA 3 ?_;refine gs (gs (gr (rn hA 1 ?_)));obtain⟨d5,b4,aJ⟩:=kV (cU (⟨b0,a9,a8⟩:aC)) (rO A hA (⟨b0,a9,a8⟩:aC) (by assumption));refine aH aJ (.inr rfl) ?_;refine rz hA 1 ?_;refine gc (λc3=>?_) (λc3=>?_)
 ·
  have c4:d5=false:=ck hA c3;refine gx hA 2 ?_;refine rt (gt ?_);show _=PV.aw [.str (aaP #[]),.bool false];have E:cU (⟨b0,a9,a8⟩:aC)=false:=by rw[<- b4,c4]
  have E1:gi A (dp A) (iw A) (⟨b0,a9,a8⟩:aC)=aaP #[]:=by unfold gi;rw[if_neg (by rw[E];decide)]
  have E2:rp (dp A) (⟨b0,a9,a8⟩:aC)=false:=by unfold rp;rw[E];rfl
  rw[E1,E2]
 have c5:d5=true:=cm hA c3;refine gk (gs ?_);have E:cU (⟨b0,a9,a8⟩:aC)=true:=by rw[<- b4,c5]
 have hg:=A1 E;have hg:1<=b0/\b0<=1000000000/\1<=a9/\a9<=1000000000/\aaL a8<=180:=hg;refine cz [0,1,2,3,4,5,6,7,8,9,10,11,12,13,14,15,16,17,18,19] (by cbv) ?_;refine bL hA 2 ?_;obtain⟨c2,d6,fq⟩:=fe (ef A hA b0 (by omega) (by omega));have f3:aaL c2<=5:=by rw[d6,bg,eI];exact cq _ (by omega)
 refine eQ fq (.inr rfl) ?_;refine bL hA 2 ?_;obtain⟨b9,c7,kA⟩:=fe (ef A hA a9 (by omega) (by omega));have f0:aaL b9<=5:=by rw[c7,bg,eI];exact cq _ (by omega)
 refine eQ kA (.inr rfl) ?_;obtain⟨zH,d0⟩:=nm (c2++b9:ByteArray);have f5:aaL zH=aaL c2+aaL b9:=by rw[d0];exact aaT
 have e9:aaL c2+aaL b9<=140737488355328:=by
  omega
 refine nb d0 e9 ?_;refine bL hA 3 ?_;obtain⟨b6,c0,e8⟩:=fe (ef A hA (A.bA a8) (by omega) (by omega));have e5:aaL b6<=5:=by rw[c0,bg,eI];exact cq _ (by omega)
 refine eQ e8 (.inr rfl) ?_;obtain⟨Fu,d1⟩:=nm (zH++b6:ByteArray);have f7:aaL Fu=aaL zH+aaL b6:=by rw[d1];exact aaT
 have e6:aaL zH+aaL b6<=140737488355328:=by
  omega
 refine nb d1 e6 ?_;refine bL hA 2 ?_;obtain⟨mL,d3⟩:=nm (Fu++a8:ByteArray);have f6:aaL mL=aaL Fu+aaL a8:=by rw[d3];exact aaT
 have e4:aaL Fu+aaL a8<=140737488355328:=by
  omega
 refine nb d3 e4 ?_;obtain⟨d2,d4,b7,b8,e7⟩:=W9 (zG A hA mL (by omega));refine eQ e7 (.inr rfl) ?_;refine dz hA 4 ?_;refine rt (gt ?_);show _=PV.aw [.str d2,.bool d4];have eb:nN (dp A) (⟨b0,a9,a8⟩:aC)=mL:=by
  simp only[d0,d1,d3,d6,c7,c0,b7,b8];rw[zb];rfl
 have E1:gi A (dp A) (iw A) (⟨b0,a9,a8⟩:aC)=iK A (iw A) mL:=by unfold gi;rw[if_pos E,eb]
 have E2:rp (dp A) (⟨b0,a9,a8⟩:aC)=iL mL:=by unfold rp;rw[E,eb];rfl
 rw[E1,E2];simp only[b7,b8]
theorem DU (A:ax)(hA:A=aj)(f:aC)(hb:aaL f.Body<=10485760):al 101 [.agg (dM f)] (.ii (vl f)):=by
 obtain⟨b0,a9,a8⟩:=f;refine ak (az:=[.agg [.ii b0,.ii a9,.str a8]]) (by rfl) ?_;refine aY Tryz.func101 ?_;refine gx hA 2 ?_;refine gs (gr (rn hA 1 ?_));obtain⟨e0,f2,d9,f1,aJ⟩:=JU (gi A (dp A) (iw A) (⟨b0,a9,a8⟩:aC)) (rp (dp A) (⟨b0,a9,a8⟩:aC)) (pN A hA (⟨b0,a9,a8⟩:aC) (by assumption));refine aH aJ (.inr rfl) ?_;refine rz hA 5 ?_;refine gx hA 3 ?_;refine rt (gt ?_);show _=(PV.int .i64 (A.bA e0));refine congrArg (PV.int .i64) ?_;rw[aS hA,d9];exact(GB (eI A) _).symm
theorem uY (A:ax)(hA:A=aj)(x:ae)(gen:Int)(hz:∀ q∈eH x.Rec,q<=1048576):al 100 [.agg (aW x),.ii gen] (.aw [.agg (dM (oW A (dp A) x gen)),.bool (kX A (dp A) x gen)]):=by
 obtain⟨b1,⟨a4,a1,a7,a6,a0,a2,a3,a5⟩⟩:=x;refine ak (az:=[.agg [.ii b1,.ii a4,.ii a1,.ii a7,.ii a6,.ii a0,.str a2,.str a3,.str a5],.ii gen]) (by rfl) ?_;have hz:∀ q∈eH (⟨a4,a1,a7,a6,a0,a2,a3,a5⟩:aE),q<=1048576:=hz;refine aY Tryz.func100 ?_;refine gx hA 3 ?_;refine gs (gr (rn hA 2 ?_));obtain⟨b2,c1,b3,b5,aJ⟩:=JU (dB A (dp A) (⟨a4,a1,a7,a6,a0,a2,a3,a5⟩:aE)) (bH (⟨a4,a1,a7,a6,a0,a2,a3,a5⟩:aE)) (xN A hA (⟨a4,a1,a7,a6,a0,a2,a3,a5⟩:aE) (by assumption));refine aH aJ (.inr rfl) ?_;refine rz hA 5 ?_;refine gs ?_;have zb:aaL b2<=10485760:=by rw[b3];exact Ir (eI A) hz (vJ hA _)
 refine gy hA 7 ?_;refine gs (gs (gr (rn hA 3 ?_)));refine ag 22 rfl (λc3=>?_) (λc3=>?_)
 ·
  have c4:c1=false:=ck hA c3;refine rz hA 4 ?_;refine gc (λc5=>?_) (λc5=>?_)
  ·
   refine gx hA 3 ?_;refine rt (gt ?_);show _=PV.aw [.agg [.ii 0,.ii 0,.str aaM],.bool false];have e1:bH (⟨a4,a1,a7,a6,a0,a2,a3,a5⟩:aE)=false:=by rw[<- b5,c4]
   have E:kX A (dp A) (⟨b1,⟨a4,a1,a7,a6,a0,a2,a3,a5⟩⟩:ae) gen=false:=by
    unfold kX;show(bH (⟨a4,a1,a7,a6,a0,a2,a3,a5⟩:aE) && _)=_;rw[e1];rfl
   have E3:oW A (dp A) (⟨b1,⟨a4,a1,a7,a6,a0,a2,a3,a5⟩⟩:ae) gen=⟨0,0,aaM⟩:=by
    unfold oW;rw[if_neg (by rw[E];decide)]
   rw[E,E3];rfl
  exact cu c5 (by rfl)
 have c6:c1=true:=cm hA c3;refine rn hA 1 ?_;obtain⟨d7,c8,jQ⟩:=kV (cU (⟨gen,b1,b2⟩:aC)) (rO A hA (⟨gen,b1,b2⟩:aC) (by assumption));refine fC jQ (.inr rfl) ?_;refine rz hA 2 ?_;refine gc (λc9=>?_) (λc9=>?_)
 ·
  have cB:d7=false:=ck hA c9;refine gx hA 3 ?_;refine rt (gt ?_);show _=PV.aw [.agg [.ii 0,.ii 0,.str aaM],.bool false];have e1:bH (⟨a4,a1,a7,a6,a0,a2,a3,a5⟩:aE)=true:=by rw[<- b5,c6]
  have e2:cU (mG A (dp A) (⟨b1,⟨a4,a1,a7,a6,a0,a2,a3,a5⟩⟩:ae) gen)=false:=by
   show cU (⟨gen,b1,dB A (dp A) (⟨a4,a1,a7,a6,a0,a2,a3,a5⟩:aE)⟩:aC)=_;rw[<- b3,<- c8,cB]
  have E:kX A (dp A) (⟨b1,⟨a4,a1,a7,a6,a0,a2,a3,a5⟩⟩:ae) gen=false:=by
   unfold kX;rw[e2];show(bH (⟨a4,a1,a7,a6,a0,a2,a3,a5⟩:aE) && _)=_;rw[e1];rfl
  have E3:oW A (dp A) (⟨b1,⟨a4,a1,a7,a6,a0,a2,a3,a5⟩⟩:ae) gen=⟨0,0,aaM⟩:=by
   unfold oW;rw[if_neg (by rw[E];decide)]
  rw[E,E3];rfl
 have cf:d7=true:=cm hA c9;refine gk (gx hA 3 ?_);refine rt (gt ?_);show _=PV.aw [.agg [.ii gen,.ii b1,.str b2],.bool true];have e1:bH (⟨a4,a1,a7,a6,a0,a2,a3,a5⟩:aE)=true:=by rw[<- b5,c6]
 have e2:cU (mG A (dp A) (⟨b1,⟨a4,a1,a7,a6,a0,a2,a3,a5⟩⟩:ae) gen)=true:=by
  show cU (⟨gen,b1,dB A (dp A) (⟨a4,a1,a7,a6,a0,a2,a3,a5⟩:aE)⟩:aC)=_;rw[<- b3,<- c8,cf]
 have E:kX A (dp A) (⟨b1,⟨a4,a1,a7,a6,a0,a2,a3,a5⟩⟩:ae) gen=true:=by
  unfold kX;rw[e2];show(bH (⟨a4,a1,a7,a6,a0,a2,a3,a5⟩:aE) && _)=_;rw[e1];rfl
 have E3:oW A (dp A) (⟨b1,⟨a4,a1,a7,a6,a0,a2,a3,a5⟩⟩:ae) gen=⟨gen,b1,b2⟩:=by
  unfold oW;rw[if_pos E,b3];rfl
 rw[E,E3];rfl
theorem mN (A:ax)(hA:A=aj)(t:ByteArray)(at_ n:Int)(hn:bc t at_=n)(h0:0<=at_)(h1:at_ < (t.size:Int))(h2:n < 128)(hz:t.size<=1048576):al 331 [.str t,.ii at_] (.aw [.ii n,.ii (at_+1),.bool true]):=by
 subst hn;exact xQ A hA t at_ h0 h1 h2 hz
theorem wA (A:ax)(hA:A=aj)(t:ByteArray)(at_:Int)(u:ByteArray)(hn:bc t at_=(u.size:Int))(hu:t.extract (aaO (at_+1)) (aaO (at_+1+(u.size:Int)))=u)(h0:0<=at_)(h1:at_+1+(u.size:Int)<=(t.size:Int))(h2:u.size < 128)(hz:t.size<=1048576):al 332 [.str t,.ii at_] (.aw [.str u,.ii (at_+1+(u.size:Int)),.bool true]):=by
 have h:=va A hA t at_ h0 (by omega) (by omega) (by omega) hz;rw[hn,hu] at h;exact h
theorem Bx (A:ax)(hA:A=aj)(f:aC)(b:Bool)(hb:cU f=b)(hz:aaL f.Body<=10485760):al 177 [.agg (dM f)] (.bool b):=by
 subst hb;exact rN A hA f hz
theorem By (A:ax)(hA:A=aj)(f:aC)(h:fN f):al 110 [.agg (dM f)] (.aw [.str (gi A (cn A) (fL A) f),.bool true]):=by
 have hr:=uV A hA f (by obtain⟨_,_,_,_,_,h6⟩:=h;omega);have e:rp (cn A) f=true:=by
  unfold rp iL;rw[oB h,decide_eq_false (by have hb:=qW (iP hA) h;obtain⟨_,_,_,_,_,h6⟩:=h;rw[hb];simp only[aaT,bg,abM];omega)];rfl
 rw[e] at hr;exact hr
theorem IP (A:ax)(hA:A=aj)(t:ByteArray)(at_:Int)(f:aC)(h0:0<=at_)(hf:fN f)(hF:xS t (aaO at_) (gi A (cn A) (fL A) f))(hz:t.size<=1048576):al 328 [.str t,.ii at_] (.aw [.agg (dM f),.ii (at_+((hC f:Nat):Int)),.bool true]):=by
 have zt:=aS hA t;have hq:=LQ (iP hA) hf hF;have IQ:=hf;obtain⟨b0,b1,b2,b3,b4,b5⟩:=hq;obtain⟨a1,a2,a0⟩:=f;obtain⟨g1,g2,g3,g4,g5,g6⟩:=hf;have g2:a1 < 128:=g2;have g3:1<=a2:=g3;have g4:a2 < 128:=g4;have g6:a0.size < 128:=g6;have hfl:hC (⟨a1,a2,a0⟩:aC)=a0.size+7:=rfl;have w0:bc t at_=a1:=by rw[<- show bc t ((aaO at_:Nat):Int)=a1 from b0,abN h0]
 have w1:bc t (at_+1)=a2:=by rw[show at_+1=((aaO at_+1:Nat):Int) by omega];exact b1
 have w2:bc t (at_+1+1)=(a0.size:Int):=by rw[show at_+1+1=((aaO at_+2:Nat):Int) by omega];exact b2
 have w3:t.extract (aaO (at_+1+1+1)) (aaO (at_+1+1+1+(a0.size:Int)))=a0:=by rw[show aaO (at_+1+1+1)=aaO at_+3 by omega,show aaO (at_+1+1+1+(a0.size:Int))=aaO at_+3+a0.size by omega];exact b3
 have b5:aaO at_+(a0.size+7)<=t.size:=b5;have w4:t.extract (aaO at_) (aaO (at_+((hC (⟨a1,a2,a0⟩:aC):Nat):Int)))=gi A (cn A) (fL A) (⟨a1,a2,a0⟩:aC):=by rw[show aaO (at_+((hC (⟨a1,a2,a0⟩:aC):Nat):Int))=aaO at_+hC (⟨a1,a2,a0⟩:aC) by omega];exact b4
 refine aY Tryz.func328 ?_;refine gx hA 3 ?_;refine gs (gr (rn hA 2 ?_));obtain⟨b8,a5,aJ⟩:=yY (mN A hA t at_ a1 w0 (by omega) (by omega) (by omega) hz);refine aH aJ (.inr rfl) ?_;refine rz hA 7 ?_;refine gs (gr (rn hA 2 ?_));obtain⟨b6,a7,cL⟩:=yY (mN A hA t b8 a2 (by rw[a5];exact w1) (by omega) (by omega) (by omega) hz);refine aH cL (.inr rfl) ?_;refine rz hA 7 ?_;refine gs (gr (rn hA 2 ?_));obtain⟨a4,d3,kU⟩:=Ha (wA A hA t b6 a0 (by rw[a7,a5];exact w2) (by rw[a7,a5];exact w3) (by omega) (by omega) (by omega) hz);refine aH kU (.inr rfl) ?_;refine rz hA 7 ?_;refine gx hA 6 ?_;refine gs (gs ?_);have ws:A.num .sub .i64 (A.bA t) a4=(t.size:Int) - a4:=by rw[dE hA (by omega) (by omega)];omega
 refine gr (rn hA 3 ?_);refine ag 44 rfl (λc7=>?_) (λc7=>?_)
 ·
  exact ay c7 (by subst hA;rfl)
 refine rn hA 4 ?_;refine ag 48 rfl (λc8=>?_) (λc8=>?_)
 ·
  exact ay c8 (by subst hA;rfl)
 refine rn hA 4 ?_;refine ag 52 rfl (λc9=>?_) (λc9=>?_)
 ·
  exact ay c9 (by subst hA;rfl)
 refine rn hA 1 ?_;have c5:=Bx A hA (⟨a1,a2,a0⟩:aC) true (oB IQ) (by show a0.size<=_;omega);refine fC c5 (.inr rfl) ?_;refine rn hA 3 ?_;refine ag 57 rfl (λcZ=>?_) (λcZ=>?_)
 ·
  exact ay cZ (by subst hA;rfl)
 refine rz hA 6 ?_;refine gc (λeU=>?_) (λeU=>?_)
 ·
  have f7:(A.num .sub .i64 (A.bA t) a4) < 4:=aP hA eU;exfalso;omega
 have f7:4<=(A.num .sub .i64 (A.bA t) a4):=aQ hA eU;refine gk (gs (gs (gr (rn hA 1 ?_))));obtain⟨c1,c2,e8⟩:=qY (gi A (cn A) (fL A) (⟨a1,a2,a0⟩:aC)) true (By A hA (⟨a1,a2,a0⟩:aC) IQ);refine aH e8 (.inr rfl) ?_;refine rz hA 5 ?_;refine gs ?_;have wn:A.num .add .i64 a4 4=at_+((hC (⟨a1,a2,a0⟩:aC):Nat):Int):=by rw[au hA (by omega) (by omega)];omega
 refine gr (rn hA 4 ?_);obtain⟨Xw,d6⟩:=nm (abE t (aaO at_) (aaO (A.num .add .i64 a4 4)):ByteArray);have f0:(0:Int)<=at_:=by omega
 have f4:at_<=(A.num .add .i64 a4 4):=by omega
 have f6:(A.num .add .i64 a4 4)<=(aaL t:Int):=by omega
 have f9:(aaL Xw:Int)=(A.num .add .i64 a4 4) - at_:=by rw[d6,aa3];omega
 refine fk rfl (tQ rfl rfl rfl rfl rfl f0 f4 f6 d6) ?_;refine rz hA 2 ?_;refine gc (λgG=>?_) (λgG=>?_)
 ·
  have e6:Xw≠c1:=mm hA gG;exact absurd (by rw[d6,c2,wn,w4]) e6
 have e6:Xw=c1:=na hA gG;refine gk (gx hA 6 ?_);refine rt (gt ?_);show _=PV.aw [.agg [.ii a1,.ii a2,.str a0],.ii (A.num .add .i64 a4 4),.bool true];rw[wn];rfl
theorem O4 (A:ax)(hA:A=aj)(t:ByteArray)(at_:Int)(hn:bc t at_=0)(h0:0<=at_)(h1:at_+1<=(t.size:Int))(hz:t.size<=1048576):al 332 [.str t,.ii at_] (.aw [.str (aaP #[]),.ii (at_+1),.bool true]):=by
 have h:=va A hA t at_ h0 (by omega) (by omega) (by omega) hz;rw[hn,Int.add_zero,ByteArray.extract_same] at h;exact h
theorem O5 (A:ax)(hA:A=aj)(t:ByteArray)(at_:Int)(h0:0<=at_)(h1:at_+7<=(t.size:Int))(w0:bc t at_=0)(w1:bc t (at_+1)=0)(w2:bc t (at_+1+1)=0)(hz:t.size<=1048576):al 328 [.str t,.ii at_] (.aw [.agg (dM ⟨0,0,aaP #[]⟩),.ii 0,.bool false]):=by
 have zt:=aS hA t;refine aY Tryz.func328 ?_;refine gx hA 3 ?_;refine gs (gr (rn hA 2 ?_));obtain⟨d9,b8,c3,a5,aJ⟩:=G9 (mN A hA t at_ 0 (by exact w0) (by omega) (by omega) (by omega) hz);refine aH aJ (.inr rfl) ?_;refine rz hA 7 ?_;refine gs (gr (rn hA 2 ?_));obtain⟨e4,b6,f3,a7,cL⟩:=G9 (mN A hA t b8 0 (by rw[a5];exact w1) (by omega) (by omega) (by omega) hz);refine aH cL (.inr rfl) ?_;refine rz hA 7 ?_;refine gs (gr (rn hA 2 ?_));obtain⟨e0,a4,d5,d3,kU⟩:=Xx (O4 A hA t b6 (by rw[a7,a5];exact w2) (by omega) (by omega) hz);refine aH kU (.inr rfl) ?_;refine rz hA 7 ?_;refine gx hA 6 ?_;refine gs (gs ?_);have ws:A.num .sub .i64 (A.bA t) 4=(t.size:Int) - 4:=by rw[dE hA (by omega) (by omega)];omega
 refine gr (rn hA 3 ?_);refine ag 44 rfl (λc7=>?_) (λc7=>?_)
 ·
  exact ay c7 (by subst hA;rfl)
 refine rn hA 4 ?_;refine ag 48 rfl (λc8=>?_) (λc8=>?_)
 ·
  exact ay c8 (by subst hA;rfl)
 refine rn hA 4 ?_;refine ag 52 rfl (λc9=>?_) (λc9=>?_)
 ·
  exact ay c9 (by subst hA;rfl)
 refine rn hA 1 ?_;have c5:=Bx A hA (⟨d9,e4,e0⟩:aC) false (by simp[cU,dm,c3]) (by rw[d5];show(aaP #[]).size<=10485760;decide);refine fC c5 (.inr rfl) ?_;refine rn hA 3 ?_;refine ag 57 rfl (λcZ=>?_) (λcZ=>?_)
 ·
  refine rz hA 6 ?_;refine gc (λeU=>?_) (λeU=>?_)
  ·
   refine gx hA 4 ?_;refine rt (gt ?_);show _=PV.aw [.agg [.ii 0,.ii 0,.str aaM],.ii 0,.bool false];rfl
  exact cu eU (by rfl)
 exact cu cZ (by subst hA;rfl)
theorem sy (A:ax)(hA:A=aj)(t:ByteArray)(at_ n:Int)(hn:bc t at_=n)(h0:0<=at_)(h1:at_ < (t.size:Int))(h2:n < 128)(hz:t.size<=1048576):al 306 [.str t,.ii at_] (.aw [.ii n,.ii (at_+1),.bool true]):=by
 subst hn;exact xR A hA t at_ h0 h1 h2 hz
theorem IS (A:ax)(hA:A=aj)(t:ByteArray)(at_:Int)(u:ByteArray)(hn:bc t at_=(u.size:Int))(hu:t.extract (aaO (at_+1)) (aaO (at_+1+(u.size:Int)))=u)(h0:0<=at_)(h1:at_+1+(u.size:Int)<=(t.size:Int))(h2:u.size < 128)(hz:t.size<=1048576):al 307 [.str t,.ii at_] (.aw [.str u,.ii (at_+1+(u.size:Int)),.bool true]):=by
 have h:=vc A hA t at_ h0 (by omega) (by omega) (by omega) hz;rw[hn,hu] at h;exact h
theorem Rc (A:ax)(hA:A=aj)(f:aC)(b:Bool)(hb:cU f=b)(hz:aaL f.Body<=10485760):al 143 [.agg (dM f)] (.bool b):=by
 subst hb;exact rO A hA f hz
theorem Bz (A:ax)(hA:A=aj)(f:aC)(h:fN f):al 84 [.agg (dM f)] (.aw [.str (gi A (dp A) (iw A) f),.bool true]):=by
 have hr:=pN A hA f (by obtain⟨_,_,_,_,_,h6⟩:=h;omega);have e:rp (dp A) f=true:=by
  unfold rp iL;rw[oB h,decide_eq_false (by have hb:=qW (nC hA) h;obtain⟨_,_,_,_,_,h6⟩:=h;rw[hb];simp only[aaT,bg,abM];omega)];rfl
 rw[e] at hr;exact hr
theorem IT (A:ax)(hA:A=aj)(t:ByteArray)(at_:Int)(f:aC)(h0:0<=at_)(hf:fN f)(hF:xS t (aaO at_) (gi A (dp A) (iw A) f))(hz:t.size<=1048576):al 273 [.str t,.ii at_] (.aw [.agg (dM f),.ii (at_+((hC f:Nat):Int)),.bool true]):=by
 have zt:=aS hA t;have hq:=LQ (nC hA) hf hF;have IQ:=hf;obtain⟨b0,b1,b2,b3,b4,b5⟩:=hq;obtain⟨a1,a2,a0⟩:=f;obtain⟨g1,g2,g3,g4,g5,g6⟩:=hf;have g2:a1 < 128:=g2;have g3:1<=a2:=g3;have g4:a2 < 128:=g4;have g6:a0.size < 128:=g6;have hfl:hC (⟨a1,a2,a0⟩:aC)=a0.size+7:=rfl;have w0:bc t at_=a1:=by rw[<- show bc t ((aaO at_:Nat):Int)=a1 from b0,abN h0]
 have w1:bc t (at_+1)=a2:=by rw[show at_+1=((aaO at_+1:Nat):Int) by omega];exact b1
 have w2:bc t (at_+1+1)=(a0.size:Int):=by rw[show at_+1+1=((aaO at_+2:Nat):Int) by omega];exact b2
 have w3:t.extract (aaO (at_+1+1+1)) (aaO (at_+1+1+1+(a0.size:Int)))=a0:=by rw[show aaO (at_+1+1+1)=aaO at_+3 by omega,show aaO (at_+1+1+1+(a0.size:Int))=aaO at_+3+a0.size by omega];exact b3
 have b5:aaO at_+(a0.size+7)<=t.size:=b5;have w4:t.extract (aaO at_) (aaO (at_+((hC (⟨a1,a2,a0⟩:aC):Nat):Int)))=gi A (dp A) (iw A) (⟨a1,a2,a0⟩:aC):=by rw[show aaO (at_+((hC (⟨a1,a2,a0⟩:aC):Nat):Int))=aaO at_+hC (⟨a1,a2,a0⟩:aC) by omega];exact b4
 refine aY Tryz.func273 ?_;refine gx hA 3 ?_;refine gs (gr (rn hA 2 ?_));obtain⟨b9,a6,aJ⟩:=yY (sy A hA t at_ a1 w0 (by omega) (by omega) (by omega) hz);refine aH aJ (.inr rfl) ?_;refine rz hA 7 ?_;refine gs (gr (rn hA 2 ?_));obtain⟨b7,a8,cL⟩:=yY (sy A hA t b9 a2 (by rw[a6];exact w1) (by omega) (by omega) (by omega) hz);refine aH cL (.inr rfl) ?_;refine rz hA 7 ?_;refine gs (gr (rn hA 2 ?_));obtain⟨a3,c6,kU⟩:=Ha (IS A hA t b7 a0 (by rw[a8,a6];exact w2) (by rw[a8,a6];exact w3) (by omega) (by omega) (by omega) hz);refine aH kU (.inr rfl) ?_;refine rz hA 7 ?_;refine gx hA 6 ?_;refine gs (gs ?_);have ws:A.num .sub .i64 (A.bA t) 4=(t.size:Int) - 4:=by rw[dE hA (by omega) (by omega)];omega
 refine gr (rn hA 3 ?_);refine ag 46 rfl (λc7=>?_) (λc7=>?_)
 ·
  exact ay c7 (by subst hA;rfl)
 refine rn hA 4 ?_;refine ag 50 rfl (λc8=>?_) (λc8=>?_)
 ·
  exact ay c8 (by subst hA;rfl)
 refine rn hA 4 ?_;refine ag 54 rfl (λc9=>?_) (λc9=>?_)
 ·
  exact ay c9 (by subst hA;rfl)
 refine rn hA 7 ?_;refine ag 61 rfl (λcB=>?_) (λcB=>?_)
 ·
  have d7:(A.num .sub .i64 (A.bA t) 4) < a3:=dJ hA cB;exfalso;omega
 have d7:a3<=(A.num .sub .i64 (A.bA t) 4):=dL hA cB;refine rz hA 3 ?_;refine gc (λcf=>?_) (λcf=>?_)
 ·
  have d1:at_ < 0:=aP hA cf;exfalso;omega
 have d1:0<=at_:=aQ hA cf;refine gk (gs (gr (rn hA 1 ?_)));obtain⟨a9,c0,d4⟩:=qY (gi A (dp A) (iw A) (⟨a1,a2,a0⟩:aC)) true (Bz A hA (⟨a1,a2,a0⟩:aC) IQ);refine aH d4 (.inr rfl) ?_;refine rz hA 5 ?_;refine gs (gs ?_);have wn:A.num .add .i64 a3 4=at_+((hC (⟨a1,a2,a0⟩:aC):Nat):Int):=by rw[au hA (by omega) (by omega)];omega
 refine gr (rn hA 3 ?_);refine ag 73 rfl (λdF=>?_) (λdF=>?_)
 ·
  exact ay dF (by subst hA;rfl)
 refine rn hA 5 ?_;obtain⟨Xy,d0⟩:=nm (abE t (aaO at_) (aaO (A.num .add .i64 a3 4)):ByteArray);have f2:(0:Int)<=at_:=by omega
 have e9:at_<=(A.num .add .i64 a3 4):=by omega
 have f5:(A.num .add .i64 a3 4)<=(aaL t:Int):=by omega
 have f8:(aaL Xy:Int)=(A.num .add .i64 a3 4) - at_:=by rw[d0,aa3];omega
 refine R6 rfl rfl rfl (tQ rfl rfl rfl rfl rfl f2 e9 f5 d0) ?_;refine rz hA 2 ?_;refine gc (λiA=>?_) (λiA=>?_)
 ·
  have e7:a9≠Xy:=mm hA iA;exact absurd (by rw[d0,c0,wn,w4]) e7
 have e7:a9=Xy:=na hA iA;refine gk (gx hA 6 ?_);refine rt (gt ?_);show _=PV.aw [.agg [.ii a1,.ii a2,.str a0],.ii (A.num .add .i64 a3 4),.bool true];rw[wn];rfl
theorem O6 (A:ax)(hA:A=aj)(t:ByteArray)(at_:Int)(hn:bc t at_=0)(h0:0<=at_)(h1:at_+1<=(t.size:Int))(hz:t.size<=1048576):al 307 [.str t,.ii at_] (.aw [.str (aaP #[]),.ii (at_+1),.bool true]):=by
 have h:=vc A hA t at_ h0 (by omega) (by omega) (by omega) hz;rw[hn,Int.add_zero,ByteArray.extract_same] at h;exact h
theorem O7 (A:ax)(hA:A=aj)(f:aC)(h:f.jy=0)(hz:aaL f.Body<=10485760):al 84 [.agg (dM f)] (.aw [.str (aaP #[]),.bool false]):=by
 have hr:=pN A hA f hz;have e:cU f=false:=by simp[cU,dm,h]
 have e1:rp (dp A) f=false:=by unfold rp;rw[e];rfl
 have e2:gi A (dp A) (iw A) f=aaP #[]:=by unfold gi;rw[if_neg (by rw[e];decide)]
 rw[e1,e2] at hr;exact hr
theorem O8 (A:ax)(hA:A=aj)(t:ByteArray)(at_:Int)(h0:0<=at_)(h1:at_+7<=(t.size:Int))(w0:bc t at_=0)(w1:bc t (at_+1)=0)(w2:bc t (at_+1+1)=0)(hz:t.size<=1048576):al 273 [.str t,.ii at_] (.aw [.agg (dM ⟨0,0,aaP #[]⟩),.ii 0,.bool false]):=by
 have zt:=aS hA t;refine aY Tryz.func273 ?_;refine gx hA 3 ?_;refine gs (gr (rn hA 2 ?_));obtain⟨d8,b9,d2,a6,aJ⟩:=G9 (sy A hA t at_ 0 (by exact w0) (by omega) (by omega) (by omega) hz);refine aH aJ (.inr rfl) ?_;refine rz hA 7 ?_;refine gs (gr (rn hA 2 ?_));obtain⟨e5,b7,f1,a8,cL⟩:=G9 (sy A hA t b9 0 (by rw[a6];exact w1) (by omega) (by omega) (by omega) hz);refine aH cL (.inr rfl) ?_;refine rz hA 7 ?_;refine gs (gr (rn hA 2 ?_));obtain⟨e3,a3,c4,c6,kU⟩:=Xx (O6 A hA t b7 (by rw[a8,a6];exact w2) (by omega) (by omega) hz);refine aH kU (.inr rfl) ?_;refine rz hA 7 ?_;refine gx hA 6 ?_;refine gs (gs ?_);have ws:A.num .sub .i64 (A.bA t) 4=(t.size:Int) - 4:=by rw[dE hA (by omega) (by omega)];omega
 refine gr (rn hA 3 ?_);refine ag 46 rfl (λc7=>?_) (λc7=>?_)
 ·
  exact ay c7 (by subst hA;rfl)
 refine rn hA 4 ?_;refine ag 50 rfl (λc8=>?_) (λc8=>?_)
 ·
  exact ay c8 (by subst hA;rfl)
 refine rn hA 4 ?_;refine ag 54 rfl (λc9=>?_) (λc9=>?_)
 ·
  exact ay c9 (by subst hA;rfl)
 refine rn hA 7 ?_;refine ag 61 rfl (λcB=>?_) (λcB=>?_)
 ·
  have d7:(A.num .sub .i64 (A.bA t) 4) < a3:=dJ hA cB;exfalso;omega
 have d7:a3<=(A.num .sub .i64 (A.bA t) 4):=dL hA cB;refine rz hA 3 ?_;refine gc (λcf=>?_) (λcf=>?_)
 ·
  have d1:at_ < 0:=aP hA cf;exfalso;omega
 have d1:0<=at_:=aQ hA cf;refine gk (gs (gr (rn hA 1 ?_)));obtain⟨a9,c0,d4⟩:=qY (aaP #[]) false (O7 A hA (⟨d8,e5,e3⟩:aC) d2 (by rw[c4];show(aaP #[]).size<=10485760;decide));refine aH d4 (.inr rfl) ?_;refine rz hA 5 ?_;refine gs (gs (gr (rn hA 3 ?_)));refine ag 73 rfl (λdF=>?_) (λdF=>?_)
 ·
  refine rz hA 8 ?_;refine gc (λeL=>?_) (λeL=>?_)
  ·
   refine gx hA 4 ?_;refine rt (gt ?_);show _=PV.aw [.agg [.ii 0,.ii 0,.str aaM],.ii 0,.bool false];rfl
  exact cu eL (by rfl)
 exact cu dF (by subst hA;rfl)
end Go.Av

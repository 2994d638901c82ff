/- Lemmas and walks for FnExactServerNew: what each function of the program and of the reference comes to. -/
import Derived.Test.YtghokbigemmaaaaGreatRp
import Derived.Test.YtghokbigemmaaaaGreatC1
import Derived.Test.YtghokbigemmaaaaGreatJ3
import Derived.Test.YtghokbigemmaaaaGreatJ1
open List renaming length→aaK,map→aaN,length_map→aaS,take_of_length_le→aaU,mem_append→aaV,length_append→aaY,replicate→aa0,length_cons→aa5,getElem?_eq_getElem→aa7,mem_singleton→aba,drop→abi,length_nil→abn,length_replicate→abY,getElem?_map→ab6
open ByteArray renaming size→aaL,mk→aaP,size_append→aaT,size_extract→aa3,extract→abE
open Int renaming toNat→aaO,toNat_natCast→abb,tdiv_eq_ediv_of_nonneg→abF
open Nat renaming zero_le→aaW
namespace Go.Av
open Go Go.Proofs
set_option maxRecDepth 100000
set_option maxHeartbeats 4000000
set_option linter.unusedVariables false
set_option linter.unusedSimpArgs false
theorem gO (A:ax)(hA:A=aj)(n lo hi:Int)(h1:lo<=n)(h2:n<=hi):al 59 [.ii n,.ii lo,.ii hi] (.bool true):=by
 have h:=ig A hA n lo hi
 rwa [show dm n lo hi=true from by simp[dm,h1,h2]] at h
theorem ff (A:ax)(hA:A=aj)(n lo hi:Int)(h1:lo<=n)(h2:n<=hi):al 46 [.ii n,.ii lo,.ii hi] (.bool true):=by
 have h:=et A hA n lo hi
 rwa [show dm n lo hi=true from by simp[dm,h1,h2]] at h
def Xe (p0 p1 p2:Int)(p3:RR):St:={sl:=.ii p0::.int .u8 p1::dV++.own 8::.ii p2::xZ,bl:=[(8,⟨.arr,1,p3⟩)]}
theorem SY (A:ax)(hA:A=aj):al 142 [.ii 32,.int .u8 0] (.str zS):=by
 refine aY Tryz.func142 ?_;refine gx hA 1 ?_;refine gs (gr (rn hA 1 ?_));obtain⟨r1,ep⟩:=nm (aa0 (aaO 32) [.int .u8 0]:RR);have AT:r1=aaN sY (aa0 32 (0:Int)):=by rw[ep];rfl
 have V7:=ab hA AT;refine bO rfl rfl (Qi rfl rfl rfl rfl rfl rfl (by decide) (by decide) (by decide) (by decide) rfl ep) ?_;refine rz hA 1 ?_;refine gs (gx hA 1 ?_);refine af ?_;refine aF (λσ m=>∃(i:Nat) (n:Int) (R:RR),σ=(Xe 32 0 n R)/\(n=(i:Int)/\i<=32/\R=aaN sY (aa0 32 (0:Int)))/\m=32 - i) _ [] [0,1,5,6] [8] _ rfl (by cbv) ⟨0,0,r1,rfl,?_,rfl⟩ (λσ m hI=>?_)
 ·
  exact⟨rfl,by omega,by assumption⟩
 obtain⟨i,n,R,rfl,⟨hn,hi,hR⟩,rfl⟩:=hI;refine gs (gx hA 3 ?_);refine gc (λc2=>?_) (λc2=>?_)
 ·
  have iY:n < 32:=aP hA c2;refine gk (gs (af (gr (rn hA 3 ?_))));have e4:(0:Int)<=n:=by
   have:aaK (aa0 32 (0:Int))=32:=rfl;omega
  have d9:n < (aaK (aa0 32 (0:Int)):Int):=by
   have:aaK (aa0 32 (0:Int))=32:=rfl;omega
  have e1:n < (aaK R:Int):=by rw[hR,aaS];exact d9
  obtain⟨Xz3,e6⟩:∃ x,((aa0 32 (0:Int)))[aaO n]? =some x:=⟨_,aa7 (by omega)⟩;refine nH e4 e1 ?_;have e3:R[aaO n]? =some (sY Xz3):=by rw[hR,ab6,e6];rfl
  obtain⟨w4,hw4⟩:=nm (List.set R (aaO n) [.int .u8 0]:RR);have ew4:w4=aaN sY (List.set (aa0 32 (0:Int)) (aaO n) 0):=by rw[hw4,hR,List.map_set];rfl
  refine bO rfl rfl (ik (r:=sY Xz3) (cs:=[.int .u8 0]) rfl rfl rfl rfl rfl ⟨_,_,rfl⟩ rfl rfl e3 rfl hw4) ?_;refine od ?_;refine gy hA 3 ?_;refine⟨_,_,?_,by cbv,i+1,(A.num .add .i64 n 1),w4,rfl,?_,rfl⟩
  ·
   omega
  refine⟨by rw[au hA (by omega) (by omega)];omega,by omega,?_⟩;rw[ew4,List.set_replicate_self]
 have iY:32<=n:=aQ hA c2;refine aI (gE ?_);refine gs (gr (rn hA 1 ?_));obtain⟨s5,Br⟩:=nm (strOfNums (aa0 32 (0:Int)):ByteArray);have zs5:aaL s5=aaK (aa0 32 (0:Int)):=by rw[Br];exact bg _
 refine bO rfl rfl (xw rfl rfl rfl rfl rfl hR Br) ?_;refine rz hA 1 ?_;refine rt (gt ?_);refine congrArg PV.str ?_;rw[Br];rfl
theorem G3 (A:ax)(hA:A=aj):al 82 [] (.str zS):=by
 refine aY Tryz.func82 ?_;refine gx hA 1 ?_;refine gs (gr ?_);obtain⟨e8,e0,aJ⟩:=fe (SY A hA);refine aH aJ (.inr rfl) ?_;refine rz hA 1 ?_;refine rt (gt ?_);show _=(PV.str e8);exact congrArg PV.str e0.symm
def ZC (p0 p1:Int)(p2:RR):St:={sl:=.aa::.aa::.pt 2 0 0::.aa::.pt 4 0 0::ql++.ii p0::.ii p1::F4,bl:=[(2,⟨.var,2,[[.zc,.zc]]⟩),(4,⟨.var,2,[[.own 7003,.zc]]⟩),(7003,⟨.arr,1,p2⟩)]}
theorem G4 (A:ax)(hA:A=aj)(n:Int)(h1:1<=n)(h2:n<=100):al 60 [.ii n] (.aw [.agg (jo ⟨aa0 (aaO n) zS,[]⟩),.bool true]):=by
 refine aY Tryz.func60 ?_;refine gx hA 2 ?_;refine gs (gs (gr (rn hA 1 ?_)));have aJ:=gO A hA n 1 100 (by omega) (by omega);refine aH aJ (.inr rfl) ?_;refine rz hA 1 ?_;refine gc (λc3=>?_) (λc3=>?_)
 ·
  exact ay c3 (by subst hA;rfl)
 refine gk (gx hA 3 ?_);refine gs (gx hA 2 ?_);refine af ?_;refine aF (λσ m=>∃(i:Nat) (R:RR) (n1:Int),σ=(ZC n n1 R)/\(n1=(i:Int)/\i<=aaO n/\R=aaN ah (aa0 i zS))/\m=aaO n - i) _ [.cell 4 0 7003 1,.up 7003,.up 4,.up 2] [2,4,10,11] [2,4,7003] _ rfl (by cbv) ⟨0,[],0,rfl,?_,rfl⟩ (λσ m hI=>?_)
 ·
  exact⟨rfl,aaW _,rfl⟩
 obtain⟨i,R,n1,rfl,⟨hn,hi,hR⟩,rfl⟩:=hI;refine gx hA 1 ?_;refine gs ?_;refine gc (λc4=>?_) (λc4=>?_)
 ·
  have du:n1 < n:=aP hA c4;refine gk (gs (af ?_));refine cR [0,1,2,3,4,5,6] (by cbv) ?_;refine cH hA 2 ?_;obtain⟨b7,d3,kU⟩:=fe (O3 A hA);refine CG kU (.inr rfl) ?_;refine cH hA 1 ?_;obtain⟨r7,kt⟩:=nm (R++[[.str b7]]:RR);have vH:r7=aaN ah ((aa0 i zS)++([(b7:ByteArray)])):=by rw[kt];exact cM hR (by rfl)
  have TV:=ab hA vH;refine iF rfl rfl rfl rfl rfl rfl rfl (ij rfl rfl rfl rfl rfl rfl rfl rfl kt (by cbv) (by cbv) (by cbv) rfl (by
   show(aaK R+aaK ([[.str b7]])) * _<=_;show(aaK R+1) * 16<=_;rw[hR,aaS,abY];omega) (by decide) (by decide)) ?_
  refine cH hA 2 ?_;refine cS (by cbv) ?_;refine gy hA 2 ?_;refine⟨_,_,?_,by cbv,i+1,r7,(A.num .add .i64 n1 1),rfl,?_,rfl⟩
  ·
   omega
  refine⟨by rw[au hA (by omega) (by omega)];omega,by omega,?_⟩;rw[vH,d3,List.replicate_succ']
 have du:n<=n1:=aQ hA c4;refine aI (gE ?_);refine gs (gB (rn hA 3 ?_));refine bY (tw:=[.cell 2 1 9001 2]) (by cbv) ?_;refine rt (gt ?_);show _=PV.aw [.agg [.ow 1 R,.ow 2 ([])],.bool true];rw[hR,show i=aaO n by omega];rfl
def ZD (p0 p1:Int)(p2:RR):St:={sl:=.ii p0::.aa::.pt 2 0 0::.aa::.pt 4 0 0::.ii p1::BJ,bl:=[(2,⟨.var,2,[[.zc,.zc]]⟩),(4,⟨.var,2,[[.own 7003,.zc]]⟩),(7003,⟨.arr,1,p2⟩)]}
theorem G5 (A:ax)(hA:A=aj)(n:Int)(h1:1<=n)(h2:n<=100):al 47 [.ii n] (.aw [.agg (jo ⟨aa0 (aaO n) zS,[]⟩),.bool true]):=by
 refine aY Tryz.func47 ?_;refine gx hA 2 ?_;refine gs (gs (gr (rn hA 1 ?_)));have aJ:=ff A hA n 1 100 (by omega) (by omega);refine aH aJ (.inr rfl) ?_;refine rz hA 1 ?_;refine gc (λc3=>?_) (λc3=>?_)
 ·
  exact ay c3 (by subst hA;rfl)
 refine gk (gx hA 3 ?_);refine gs (gx hA 1 ?_);refine af ?_;refine aF (λσ m=>∃(i:Nat) (R:RR) (n1:Int),σ=(ZD n n1 R)/\(n1=(i:Int)/\i<=aaO n/\R=aaN ah (aa0 i zS))/\m=aaO n - i) _ [.cell 4 0 7003 1,.up 7003,.up 4,.up 2] [0,2,4,5] [2,4,7003] _ rfl (by cbv) ⟨0,[],0,rfl,?_,rfl⟩ (λσ m hI=>?_)
 ·
  exact⟨rfl,aaW _,rfl⟩
 obtain⟨i,R,n1,rfl,⟨hn,hi,hR⟩,rfl⟩:=hI;refine gs (gx hA 3 ?_);refine gc (λc4=>?_) (λc4=>?_)
 ·
  have du:n1 < n:=aP hA c4;refine gk (gs (af ?_));refine cR [0,1,2,3,4,5,6] (by cbv) ?_;refine cH hA 2 ?_;obtain⟨b5,d4,kU⟩:=fe (G3 A hA);refine CG kU (.inr rfl) ?_;refine cH hA 1 ?_;obtain⟨r7,kt⟩:=nm (R++[[.str b5]]:RR);have vH:r7=aaN ah ((aa0 i zS)++([(b5:ByteArray)])):=by rw[kt];exact cM hR (by rfl)
  have TV:=ab hA vH;refine iF rfl rfl rfl rfl rfl rfl rfl (ij rfl rfl rfl rfl rfl rfl rfl rfl kt (by cbv) (by cbv) (by cbv) rfl (by
   show(aaK R+aaK ([[.str b5]])) * _<=_;show(aaK R+1) * 16<=_;rw[hR,aaS,abY];omega) (by decide) (by decide)) ?_
  refine cH hA 2 ?_;refine cS (by cbv) ?_;refine gy hA 3 ?_;refine⟨_,_,?_,by cbv,i+1,r7,(A.num .add .i64 n1 1),rfl,?_,rfl⟩
  ·
   omega
  refine⟨by rw[au hA (by omega) (by omega)];omega,by omega,?_⟩;rw[vH,d4,List.replicate_succ']
 have du:n<=n1:=aQ hA c4;refine aI (gE ?_);refine gs (gB (rn hA 3 ?_));refine bY (tw:=[.cell 2 1 9001 2]) (by cbv) ?_;refine rt (gt ?_);show _=PV.aw [.agg [.ow 1 R,.ow 2 ([])],.bool true];rw[hR,show i=aaO n by omega];rfl
theorem U5 (A:ax)(hA:A=aj)(s:ByteArray)(hs:s.size=32):al 184 [.str s] (.bool false):=by
 refine aY Tryz.func184 ?_;refine gx hA 1 ?_;refine gx hA 4 ?_;refine rt (gt ?_);show _=(PV.bool (A.cmp .neq (A.bA s) 32));refine congrArg PV.bool ?_;have zs:=aS hA s;have h2:(A.bA s)=32:=by omega
 rw[h2];subst hA;rfl
def U6 (p0:RR)(p1 p2:Int):St:={sl:=.sl 1 p0::.fn 184 []::ql++.ii p1::.ii p2::tk,bl:=[]}
theorem Fw (A:ax)(hA:A=aj)(xs:List ByteArray)(hx:(aaK xs:Int)<=4611686018427387904)(hp:∀ s∈xs,s.size=32):al 241 [.sl 1 (aaN ah xs),.fn 184 []] (.ii (-1)):=by
 obtain⟨a3,a7,b8⟩:=nr hA ah xs;refine ak (az:=[.sl 1 a3,.fn 184 []]) (by subst a7;rfl) ?_;refine aY Tryz.func241 ?_;refine gx hA 1 ?_;refine gs (gx hA 3 ?_);refine af ?_;refine aF (λσ m=>∃(i:Nat) (n:Int),σ=(U6 a3 (A.ao a3) n)/\(n=(i:Int)/\i<=aaK xs)/\m=aaK xs - i) _ [] [0,1,7,8] [] _ rfl (by cbv) ⟨0,0,rfl,?_,rfl⟩ (λσ m hI=>?_)
 ·
  exact⟨rfl,aaW _⟩
 obtain⟨i,n,rfl,⟨hn,hi⟩,rfl⟩:=hI;refine gx hA 1 ?_;refine gs ?_;refine gc (λc1=>?_) (λc1=>?_)
 ·
  have aV:n < (A.ao a3):=aP hA c1;refine gk (gs (af (gx hA 2 ?_)));refine gs (gr (rn hA 3 ?_));obtain⟨c9,f1,x2,cX,b2⟩:=ga xs n (by omega) (by omega);have c0:a3[(aaO n)]? =some [.str x2]:=by
   exact bC ah a7 cX
  refine ee c9 c0 ?_;refine rn hA 1 ?_;have cL:=U5 A hA x2 (hp _ b2);refine aH cL (.inr rfl) ?_;refine od ?_;refine gc (λc5=>?_) (λc5=>?_)
  ·
   exact ay c5 (by rfl)
  refine gk (gy hA 2 ?_);refine⟨_,_,?_,by cbv,i+1,(A.num .add .i64 n 1),rfl,?_,rfl⟩
  ·
   omega
  exact⟨by rw[au hA (by omega) (by omega)];omega,by omega⟩
 have aV:(A.ao a3)<=n:=aQ hA c1;refine aI (gE ?_);refine gx hA 1 ?_;refine rt (gt ?_);show _=(PV.int .i64 (-1));rfl
theorem G6 (A:ax)(hA:A=aj)(xs:List ByteArray)(hx:(aaK xs:Int)<=4611686018427387904)(hp:∀ s∈xs,s.size=32):al 183 [.sl 1 (aaN ah xs),.fn 184 []] (.bool false):=by
 obtain⟨a3,a7,b8⟩:=nr hA ah xs;refine ak (az:=[.sl 1 a3,.fn 184 []]) (by subst a7;rfl) ?_;refine aY Tryz.func183 ?_;refine gx hA 1 ?_;refine gs (gr (rn hA 2 ?_));obtain⟨c6,b4,aJ⟩:=tb (Fw A hA xs hx hp);refine aH aJ (.inr rfl) ?_ (hv:=by subst a7;rfl);refine rz hA 2 ?_;refine rt (gt ?_);show _=(PV.bool (A.cmp .geq c6 0));rw[b4];subst hA;rfl
theorem U7 (A:ax)(hA:A=aj)(x:br)(rs rc:RR)(ss:List ByteArray)(hrs:rs=aaN ah ss)(h1:0<=x.At)(h2:x.At < (aaK ss:Int))(h4:aaK ss<=100)(h3:x.Text.size=32):al 186 [.agg (bn x),.rd [.sl 1 rs,.sl 2 rc]] (.bool false):=by
 obtain⟨b9,a9⟩:=x;refine ak (az:=[.agg [.ii b9,.str a9],.rd [.sl 1 rs,.sl 2 rc]]) (by rfl) ?_;refine aY Tryz.func186 ?_;have lrs:=ab hA hrs;have h1:0<=b9:=h1;have h2:b9 < (aaK ss:Int):=h2;have h3:a9.size=32:=h3;refine gx hA 2 ?_;refine gs (gr (rn hA 6 ?_));have aJ:=gO A hA b9 0 (A.num .sub .i64 (A.ao rs) 1) (by omega) (by rw[dE hA (by omega) (by omega)];omega);refine aH aJ (.inr rfl) ?_;refine rn hA 2 ?_;refine ag 12 rfl (λc3=>?_) (λc3=>?_)
 ·
  exact ay c3 (by subst hA;rfl)
 refine rz hA 6 ?_;refine rt (gt ?_);show _=(PV.bool (A.cmp .neq (A.bA a9) 32));refine congrArg PV.bool ?_;have zs:=aS hA a9;have h2:(A.bA a9)=32:=by omega
 rw[h2];subst hA;rfl
def U8 (p0 p1 p2:RR)(p3 p4:Int):St:={sl:=.sl 2 p0::.fn 186 [.rd [.sl 1 p1,.sl 2 p2]]::ql++.ii p3::.ii p4::tk,bl:=[]}
theorem Fx (A:ax)(hA:A=aj)(xs:List br)(hx:(aaK xs:Int)<=4611686018427387904)(rs rc:RR)(ss:List ByteArray)(hrs:rs=aaN ah ss)(hp:∀ w∈xs,0<=w.At/\w.At < (aaK ss:Int)/\w.Text.size=32)(h4:aaK ss<=100):al 242 [.sl 2 (aaN bn xs),.fn 186 [.rd [.sl 1 rs,.sl 2 rc]]] (.ii (-1)):=by
 obtain⟨a3,a7,b8⟩:=nr hA bn xs;refine ak (az:=[.sl 2 a3,.fn 186 [.rd [.sl 1 rs,.sl 2 rc]]]) (by subst a7;rfl) ?_;refine aY Tryz.func242 ?_;refine gx hA 1 ?_;refine gs (gx hA 3 ?_);refine af ?_;refine aF (λσ m=>∃(i:Nat) (n:Int),σ=(U8 a3 rs rc (A.ao a3) n)/\(n=(i:Int)/\i<=aaK xs)/\m=aaK xs - i) _ [] [0,1,7,8] [] _ rfl (by cbv) ⟨0,0,rfl,?_,rfl⟩ (λσ m hI=>?_)
 ·
  exact⟨rfl,aaW _⟩
 obtain⟨i,n,rfl,⟨hn,hi⟩,rfl⟩:=hI;refine gx hA 1 ?_;refine gs ?_;refine gc (λc1=>?_) (λc1=>?_)
 ·
  have aV:n < (A.ao a3):=aP hA c1;refine gk (gs (af (gx hA 2 ?_)));refine gs (gr (rn hA 3 ?_));obtain⟨c9,f1,x2,cX,b2⟩:=ga xs n (by omega) (by omega);obtain⟨d1,b3⟩:=x2;have c0:a3[(aaO n)]? =some [.ii d1,.str b3]:=by
   exact bC bn a7 cX
  refine ee c9 c0 ?_;refine rn hA 1 ?_;have cL:=U7 A hA (⟨d1,b3⟩:br) rs rc ss hrs (hp _ b2).1 (hp _ b2).2.1 h4 (hp _ b2).2.2;refine aH cL (.inr rfl) ?_;refine od ?_;refine gc (λc5=>?_) (λc5=>?_)
  ·
   exact ay c5 (by rfl)
  refine gk (gy hA 2 ?_);refine⟨_,_,?_,by cbv,i+1,(A.num .add .i64 n 1),rfl,?_,rfl⟩
  ·
   omega
  exact⟨by rw[au hA (by omega) (by omega)];omega,by omega⟩
 have aV:(A.ao a3)<=n:=aQ hA c1;refine aI (gE ?_);refine gx hA 1 ?_;refine rt (gt ?_);show _=(PV.int .i64 (-1));rfl
theorem G7 (A:ax)(hA:A=aj)(xs:List br)(hx:(aaK xs:Int)<=4611686018427387904)(rs rc:RR)(ss:List ByteArray)(hrs:rs=aaN ah ss)(hp:∀ w∈xs,0<=w.At/\w.At < (aaK ss:Int)/\w.Text.size=32)(h4:aaK ss<=100):al 185 [.sl 2 (aaN bn xs),.fn 186 [.rd [.sl 1 rs,.sl 2 rc]]] (.bool false):=by
 obtain⟨a3,a7,b8⟩:=nr hA bn xs;refine ak (az:=[.sl 2 a3,.fn 186 [.rd [.sl 1 rs,.sl 2 rc]]]) (by subst a7;rfl) ?_;refine aY Tryz.func185 ?_;refine gx hA 1 ?_;refine gs (gr (rn hA 2 ?_));obtain⟨c6,b4,aJ⟩:=tb (Fx A hA xs hx rs rc ss hrs hp h4);refine aH aJ (.inr rfl) ?_ (hv:=by subst a7;rfl);refine rz hA 2 ?_;refine rt (gt ?_);show _=(PV.bool (A.cmp .geq c6 0));rw[b4];subst hA;rfl
theorem nj (A:ax)(hA:A=aj)(d:bj)(hd:eM d):al 114 [.agg (gf d)] (.bool true):=by
 obtain⟨a1,a4⟩:=d;obtain⟨a0,a5,b1⟩:=nr hA ah a1;obtain⟨a2,a6,b6⟩:=nr hA bn a4;refine ak (az:=[.agg [.sl 1 a0,.sl 2 a2]]) (by subst a5 a6;rfl) ?_;have iy:=hd;obtain⟨cN,dO,eV,dx,ew⟩:=hd;have cN:1<=aaK a1:=cN;have dO:aaK a1<=100:=dO;have eV:aaK a4<=60:=eV;have dx:∀ s∈a1,s.size=32:=dx;have ew:∀ w∈a4,0<=w.At/\w.At < (a1.length:Int)/\w.Text.size=32:=ew;refine aY Tryz.func114 ?_;refine gx hA 2 ?_;refine gs (gs (gr (rn hA 3 ?_)));have aJ:=gO A hA (A.ao a0) 1 100 (by omega) (by omega);refine aH aJ (.inr rfl) ?_;refine rn hA 2 ?_;refine ag 8 rfl (λc3=>?_) (λc3=>?_)
 ·
  exact ay c3 (by subst hA;rfl)
 refine rz hA 5 ?_;refine gc (λc4=>?_) (λc4=>?_)
 ·
  have du:60 < (A.ao a2):=dJ hA c4;exact absurd du (by omega)
 have du:(A.ao a2)<=60:=dL hA c4;refine gk (gs (gs (gr (rn hA 2 ?_))));have kU:=G6 A hA a1 (by omega) dx;refine aH kU (.inr rfl) ?_ (hv:=by subst a5;rfl);refine od ?_;refine gc (λc7=>?_) (λc7=>?_)
 ·
  exact ay c7 (by rfl)
 refine gk (gs (gr (rn hA 3 ?_)));have kA:al 185 [.sl 2 a2,.fn 186 [.rd [.sl 1 a0,.sl 2 a2]]] (.bool false):=by subst a5 a6;exact G7 A hA a4 (by omega) _ _ a1 rfl ew dO
 refine aH kA (.inl trivial) ?_;refine rz hA 2 ?_;refine rt (gt ?_);show _=(PV.bool (A.eB false));subst hA;rfl
def ZE (p0:Int)(p1 p2:RR):St:={sl:=.aa::.pt 1 0 0::.aa::.ii p0::NP,bl:=[(1,⟨.var,2,[[.sl 1 p1,.sl 2 p2]]⟩)]}
def ZF (p0:Int)(p1 p2:RR):St:={sl:=.aa::.pt 1 0 0::.aa::.aa::.ii p0::Tr,bl:=[(1,⟨.var,2,[[.sl 1 p1,.sl 2 p2]]⟩)]}
theorem nk (A:ax)(hA:A=aj)(d:bj)(hd:eM d):al 88 [.agg (gf d)] (.bool true):=by
 obtain⟨a1,a4⟩:=d;obtain⟨a0,a5,b1⟩:=nr hA ah a1;obtain⟨a2,a6,b6⟩:=nr hA bn a4;refine ak (az:=[.agg [.sl 1 a0,.sl 2 a2]]) (by subst a5 a6;rfl) ?_;have iy:=hd;obtain⟨cN,dO,eV,dx,ew⟩:=hd;have cN:1<=aaK a1:=cN;have dO:aaK a1<=100:=dO;have eV:aaK a4<=60:=eV;have dx:∀ s∈a1,s.size=32:=dx;have ew:∀ w∈a4,0<=w.At/\w.At < (a1.length:Int)/\w.Text.size=32:=ew;refine aY Tryz.func88 ?_;refine gx hA 2 ?_;refine gs (gs (gr (rn hA 3 ?_)));have aJ:=ff A hA (A.ao a0) 1 100 (by omega) (by omega);refine aH aJ (.inr rfl) ?_;refine rn hA 2 ?_;refine ag 10 rfl (λc3=>?_) (λc3=>?_)
 ·
  exact ay c3 (by subst hA;rfl)
 refine rz hA 5 ?_;refine gc (λc4=>?_) (λc4=>?_)
 ·
  have du:60 < (A.ao a2):=dJ hA c4;exact absurd du (by omega)
 have du:(A.ao a2)<=60:=dL hA c4;refine gk (gs (gx hA 1 ?_));refine af ?_;refine aF (λσ m=>∃(i:Nat) (n:Int),σ=(ZE n a0 a2)/\(n=(i:Int)/\i<=aaK a1)/\m=aaK a1 - i) _ [] [1,3] [1] _ rfl (by cbv) ⟨0,0,rfl,?_,rfl⟩ (λσ m hI=>?_)
 ·
  exact⟨rfl,aaW _⟩
 obtain⟨i,n,rfl,⟨hn,hi⟩,rfl⟩:=hI;refine gs (gx hA 5 ?_);refine gc (λc5=>?_) (λc5=>?_)
 ·
  have fu:n < (A.ao a0):=aP hA c5;refine gk (gs (af (gs (gr (rn hA 3 ?_)))));obtain⟨f0,f3,x6,IB,e7⟩:=ga a1 n (by omega) (by omega);have e9:a0[(aaO n)]? =some [.str x6]:=by
   exact bC ah a5 IB
  have f2:=aS hA x6;have f6:=dx _ e7;refine ee f0 e9 ?_;refine rz hA 3 ?_;refine gc (λc7=>?_) (λc7=>?_)
  ·
   have jx:(A.bA x6)≠32:=gp hA c7;exact absurd (by omega) jx
  have jx:(A.bA x6)=32:=gq hA c7;refine gk (gy hA 3 ?_);refine⟨_,_,?_,by cbv,i+1,(A.num .add .i64 n 1),rfl,?_,rfl⟩
  ·
   omega
  exact⟨by rw[au hA (by omega) (by omega)];omega,by omega⟩
 have fu:(A.ao a0)<=n:=aQ hA c5;refine aI (gE ?_);refine gs (gx hA 1 ?_);refine af ?_;refine aF (λσ m=>∃(k:Nat) (n2:Int),σ=(ZF n2 a0 a2)/\(n2=(k:Int)/\k<=aaK a4)/\m=aaK a4 - k) _ [] [1,4] [1] _ rfl (by cbv) ⟨0,0,rfl,?_,rfl⟩ (λσ m hI=>?_)
 ·
  exact⟨rfl,aaW _⟩
 obtain⟨k,n2,rfl,⟨hk,hkl⟩,rfl⟩:=hI;refine gs (gx hA 5 ?_);refine gc (λc8=>?_) (λc8=>?_)
 ·
  have gz:n2 < (A.ao a2):=aP hA c8;refine gk (gs (af (gs ?_)));refine cz [0,1,2,3,4,5,6,7,8,9,10,11,12,13,14,15,16,17,18,19,20,21] (by cbv) ?_;refine bL hA 3 ?_;obtain⟨d7,f4,x9,C0,e2⟩:=ga a4 n2 (by omega) (by omega);obtain⟨b0,a8⟩:=x9;have d6:a2[(aaO n2)]? =some [.ii b0,.str a8]:=by
   exact bC bn a6 C0
  obtain⟨d5,d2,d0⟩:=ew _ e2;have f5:=aS hA a8;have d5:0<=b0:=d5;have d2:b0 < (a1.length:Int):=d2;have d0:a8.size=32:=d0;refine ob d7 d6 ?_;refine bL hA 6 ?_;have e5:=ff A hA b0 0 (A.num .sub .i64 (A.ao a0) 1) (by omega) (by rw[dE hA (by omega) (by omega)];omega);refine eQ e5 (.inr rfl) ?_;refine bL hA 2 ?_;refine bV 49 rfl (λcZ=>?_) (λcZ=>?_)
  ·
   exact ay cZ (by subst hA;rfl)
  refine bL hA 3 ?_;refine lD rfl rfl rfl rfl rfl (jO rfl rfl rfl rfl rfl d7 rfl d6) ?_;refine dz hA 5 ?_;refine gc (λeU=>?_) (λeU=>?_)
  ·
   have d8:(A.bA a8)≠32:=gp hA eU;exact absurd (by omega) d8
  have d8:(A.bA a8)=32:=gq hA eU;refine gk (gy hA 3 ?_);refine⟨_,_,?_,by cbv,k+1,(A.num .add .i64 n2 1),rfl,?_,rfl⟩
  ·
   omega
  exact⟨by rw[au hA (by omega) (by omega)];omega,by omega⟩
 have gz:(A.ao a2)<=n2:=aQ hA c8;refine aI (gE ?_);refine gx hA 1 ?_;refine rt (gt ?_);show _=(PV.bool true);rfl
def W3 (p0:Int)(p1:RR):St:={sl:=.ii p0::.aa::.aa::.own 4::yb,bl:=[(4,⟨.arr,1,p1⟩)]}
theorem eY (A:ax)(hA:A=aj)(n:Int)(h0:0<=n)(h1:n<=34359738367):al 179 [.ii n] (.str (strOfNums (cn A n))):=by
 refine aY Tryz.func179 ?_;refine gx hA 1 ?_;refine gx hA 2 ?_;refine gs (af ?_);refine aF (λσ m=>∃(L:List Int) (q:Int) (R:RR),σ=(W3 q R)/\(0<=q/\q<=n/\R=aaN sY L/\aaK L+aaO q<=aaO n/\cn A n=L++cn A q)/\m=aaO q) _ [] [0,3] [4] _ rfl (by cbv) ⟨[],n,[],rfl,?_,rfl⟩ (λσ m hI=>?_)
 ·
  exact⟨h0,by omega,rfl,by simp,rfl⟩
 obtain⟨L,q,R,rfl,⟨QZ,hqn,hR,hL,hE⟩,rfl⟩:=hI;have oX:Int.fdiv q (2 ^ aaO 7)=q / 128:=Wf (by omega);have lR:=ab hA hR;refine gs (gx hA 2 ?_);refine gc (λc1=>?_) (λc1=>?_)
 ·
  have aV:127 < q:=dJ hA c1;refine gk (af (gs (gr (rn hA 6 ?_))));obtain⟨r2,fT⟩:=nm (R++[[.int .u8 (A.cw .u8 (A.num .or .i64 (A.num .and .i64 q 127) 128))]]:RR);have CT:r2=aaN sY (L++([((A.cw .u8 (A.num .or .i64 (A.num .and .i64 q 127) 128)):Int)])):=by rw[fT];exact cM hR (by rfl)
  have lr2:=ab hA CT;refine ju fT ?_ (hl:=by
   show(aaK R+aaK ([[.int .u8 (A.cw .u8 (A.num .or .i64 (A.num .and .i64 q 127) 128))]])) * _<=_;show(aaK R+1) * 1<=_;rw[hR,aaS];omega)
  refine rz hA 1 ?_;refine gr (rn hA 1 ?_);obtain⟨n3,Bq⟩:=nm (Int.fdiv q (2 ^ aaO 7):Int);refine fk rfl (pZ rfl rfl rfl (by decide) (by decide) Bq) ?_;refine rz hA 1 ?_;refine⟨_,_,?_,by cbv,(L++[((A.cw .u8 (A.num .or .i64 (A.num .and .i64 q 127) 128)):Int)]),n3,r2,rfl,?_,rfl⟩
  ·
   omega
  have nV:n3=q / 128:=by rw[Bq];exact oX
  refine⟨by omega,by omega,?_,by rw[aaY];simp only[aa5,abn];omega,?_⟩
  ·exact CT
  rw[hE,nV,cn,MY (by omega),List.append_assoc];rfl
 have aV:q<=127:=dL hA c1;refine aI (gE ?_);refine gs (gr (rn hA 4 ?_));obtain⟨r4,gh⟩:=nm (R++[[.int .u8 (A.cw .u8 q)]]:RR);have vF:r4=aaN sY (L++([((A.cw .u8 q):Int)])):=by rw[gh];exact cM hR (by rfl)
 have TR:=ab hA vF;refine ju gh ?_ (hl:=by
  show(aaK R+aaK ([[.int .u8 (A.cw .u8 q)]])) * _<=_;show(aaK R+1) * 1<=_;rw[hR,aaS];omega)
 obtain⟨s5,Br⟩:=nm (strOfNums (L++[((A.cw .u8 q):Int)]):ByteArray);have zs5:aaL s5=aaK (L++[((A.cw .u8 q):Int)]):=by rw[Br];exact bg _
 refine bO rfl rfl (xw rfl rfl rfl rfl rfl vF Br) ?_;refine rz hA 1 ?_;refine rt (gt ?_);refine congrArg PV.str ?_;rw[Br];refine congrArg strOfNums ?_;rw[hE,cn,B5 (by omega)]
def W4 (p0:Int)(p1:RR):St:={sl:=.ii p0::.aa::.aa::.own 4::yb,bl:=[(4,⟨.arr,1,p1⟩)]}
theorem ef (A:ax)(hA:A=aj)(n:Int)(h0:0<=n)(h1:n<=34359738367):al 145 [.ii n] (.str (strOfNums (dp A n))):=by
 refine aY Tryz.func145 ?_;refine gx hA 1 ?_;refine gx hA 2 ?_;refine gs (af ?_);refine aF (λσ m=>∃(L:List Int) (q:Int) (R:RR),σ=(W4 q R)/\(0<=q/\q<=n/\R=aaN sY L/\aaK L+aaO q<=aaO n/\dp A n=L++dp A q)/\m=aaO q) _ [] [0,3] [4] _ rfl (by cbv) ⟨[],n,[],rfl,?_,rfl⟩ (λσ m hI=>?_)
 ·
  exact⟨h0,by omega,rfl,by simp,rfl⟩
 obtain⟨L,q,R,rfl,⟨QZ,hqn,hR,hL,hE⟩,rfl⟩:=hI;have oX:A.num .quo .i64 q 128=q / 128:=by rw[xM hA (by unfold i64;omega) (by decide),abF (by omega)]
 have lR:=ab hA hR;refine gs (gx hA 2 ?_);refine gc (λc1=>?_) (λc1=>?_)
 ·
  have aV:127 < q:=dJ hA c1;refine gk (af (gs (gr (rn hA 6 ?_))));obtain⟨r2,fT⟩:=nm (R++[[.int .u8 (A.cw .u8 (A.num .add .i64 (A.num .rem .i64 q 128) 128))]]:RR);have CT:r2=aaN sY (L++([((A.cw .u8 (A.num .add .i64 (A.num .rem .i64 q 128) 128)):Int)])):=by rw[fT];exact cM hR (by rfl)
  have lr2:=ab hA CT;refine ju fT ?_ (hl:=by
   show(aaK R+aaK ([[.int .u8 (A.cw .u8 (A.num .add .i64 (A.num .rem .i64 q 128) 128))]])) * _<=_;show(aaK R+1) * 1<=_;rw[hR,aaS];omega)
  refine rz hA 1 ?_;refine gy hA 3 ?_;refine⟨_,_,?_,by cbv,(L++[((A.cw .u8 (A.num .add .i64 (A.num .rem .i64 q 128) 128)):Int)]),(A.num .quo .i64 q 128),r2,rfl,?_,rfl⟩
  ·
   omega
  have nV:(A.num .quo .i64 q 128)=q / 128:=oX;refine⟨by omega,by omega,?_,by rw[aaY];simp only[aa5,abn];omega,?_⟩
  ·exact CT
  rw[hE,nV,dp,MY (by omega),List.append_assoc];rfl
 have aV:q<=127:=dL hA c1;refine aI (gE ?_);refine gs (gr (rn hA 4 ?_));obtain⟨r3,dS⟩:=nm (R++[[.int .u8 (A.cw .u8 q)]]:RR);have jv:r3=aaN sY (L++([((A.cw .u8 q):Int)])):=by rw[dS];exact cM hR (by rfl)
 have AR:=ab hA jv;refine ju dS ?_ (hl:=by
  show(aaK R+aaK ([[.int .u8 (A.cw .u8 q)]])) * _<=_;show(aaK R+1) * 1<=_;rw[hR,aaS];omega)
 obtain⟨s4,Bo⟩:=nm (strOfNums (L++[((A.cw .u8 q):Int)]):ByteArray);have zs4:aaL s4=aaK (L++[((A.cw .u8 q):Int)]):=by rw[Bo];exact bg _
 refine bO rfl rfl (xw rfl rfl rfl rfl rfl jv Bo) ?_;refine rz hA 1 ?_;refine rt (gt ?_);refine congrArg PV.str ?_;rw[Bo];refine congrArg strOfNums ?_;rw[hE,dp,B5 (by omega)]
def Xq (p0:ByteArray)(p1 p2:Int):St:={sl:=.str p0::.ii p1::ql++.ii p2::.ii p2::Tp,bl:=[]}
theorem xQ (A:ax)(hA:A=aj)(t:ByteArray)(at_:Int)(h0:0<=at_)(h1:at_ < (t.size:Int))(h2:bc t at_ < 128)(hz:t.size<=1048576):al 331 [.str t,.ii at_] (.aw [.ii (bc t at_),.ii (at_+1),.bool true]):=by
 have zt:=aS hA t;have jm:=(wu t at_).1;refine aY Tryz.func331 ?_;refine gx hA 3 ?_;refine gs (gs (gr (rn hA 3 ?_)));have aJ:=gO A hA at_ 0 (A.bA t) (by omega) (by omega);refine aH aJ (.inr rfl) ?_;refine rz hA 1 ?_;refine gc (λc3=>?_) (λc3=>?_)
 ·
  exact ay c3 (by subst hA;rfl)
 refine gk (gx hA 1 ?_);refine gs (gx hA 1 ?_);refine af ?_;refine aF (λσ m=>σ=(Xq t at_ 0)/\(True)/\m=0) _ [] [0,1,7,8] [] _ rfl (by cbv) ⟨rfl,?_,rfl⟩ (λσ m hI=>?_)
 ·
  exact trivial
 obtain⟨rfl,_,rfl⟩:=hI;refine gs (gs (gr (rn hA 3 ?_)));refine ag 17 rfl (λc4=>?_) (λc4=>?_)
 ·
  refine rz hA 7 ?_;refine gc (λc5=>?_) (λc5=>?_)
  ·
   have fu:(A.num .add .i64 at_ 0) < (A.bA t):=aP hA c5;refine gk (gs (af (gs ?_)));have wi:A.num .add .i64 at_ 0=at_:=by rw[au hA (by omega) (by omega)];omega
   refine gr (rn hA 4 ?_);have zy6:A.bA t=(aaL t:Int):=aS hA t;have a8:(0:Int)<=(A.num .add .i64 at_ 0):=by omega
   have a7:(A.num .add .i64 at_ 0) < (aaL t:Int):=by omega
   obtain⟨y6,Rb⟩:=nm (bc t (A.num .add .i64 at_ 0):Int);refine bO rfl rfl (ml rfl rfl rfl rfl a8 a7 Rb) ?_;refine rz hA 2 ?_;refine gs ?_;have wy:y6=bc t at_:=by rw[Rb,wi]
   have wx:A.cw .i64 y6=bc t at_:=by rw[Cg hA (by unfold i64;omega),wy]
   have wa:A.num .and .i64 (A.cw .i64 y6) 127=bc t at_:=by rw[wx];exact Xr hA jm h2
   have w7:A.num .mul .i64 7 0=0:=by subst hA;rfl
   have p7:0<=A.num .mul .i64 7 0:=by omega
   have q7:A.num .mul .i64 7 0<=((IntKind.bits .i64:Nat):Int):=by rw[w7];decide
   refine gr (rn hA 5 ?_);obtain⟨n7,hn7⟩:=nm (IntKind.wrap .i64 ((A.num .and .i64 (A.cw .i64 y6) 127) * 2 ^ aaO (A.num .mul .i64 7 0)):Int);refine fk rfl (UA rfl rfl rfl (by first | exact p7 | exact q7) (by first | exact p7 | exact q7) hn7) ?_;refine rz hA 2 ?_;refine gs (gs ?_);have ws:n7=bc t at_:=by rw[hn7,wa,w7,show(2:Int) ^ aaO 0=1 from rfl,Int.mul_one,wrap64 (by unfold i64;omega)]
   have wo:A.num .or .i64 0 n7=bc t at_:=by rw[ws];exact or0 hA jm h2
   refine gy hA 2 ?_;refine gc (λc8=>?_) (λc8=>?_)
   ·
    have gz:127 < (A.cw .i64 y6):=dJ hA c8;exfalso;omega
   have gz:(A.cw .i64 y6)<=127:=dL hA c8;refine gk (gs (gs (gr (rn hA 3 ?_))));refine ag 44 rfl (λc9=>?_) (λc9=>?_)
   ·
    have po:(A.cw .i64 y6)=0:=eE hA c9;refine rn hA 4 ?_;refine ag 48 rfl (λcB=>?_) (λcB=>?_)
    ·
     exact ay cB (by subst hA;rfl)
    refine rz hA 3 ?_;refine gc (λcf=>?_) (λcf=>?_)
    ·
     have b8:1000000000 < (A.num .or .i64 0 n7):=dJ hA cf;exfalso;omega
    have b8:(A.num .or .i64 0 n7)<=1000000000:=dL hA cf;refine gk (gx hA 8 ?_);refine rt (gt ?_);show _=PV.aw [.ii (A.num .or .i64 0 n7),.ii (A.num .add .i64 (A.num .add .i64 at_ 0) 1),.bool true];rw[wo,wi,au hA (by omega) (by omega)]
   have po:(A.cw .i64 y6)≠0:=eF hA c9;refine rz hA 7 ?_;refine gc (λcZ=>?_) (λcZ=>?_)
   ·
    have b1:1000000000 < (A.num .or .i64 0 n7):=dJ hA cZ;exfalso;omega
   have b1:(A.num .or .i64 0 n7)<=1000000000:=dL hA cZ;refine gk (gx hA 8 ?_);refine rt (gt ?_);show _=PV.aw [.ii (A.num .or .i64 0 n7),.ii (A.num .add .i64 (A.num .add .i64 at_ 0) 1),.bool true];rw[wo,wi,au hA (by omega) (by omega)]
  have fu:(A.bA t)<=(A.num .add .i64 at_ 0):=aQ hA c5;exfalso;have wi:A.num .add .i64 at_ 0=at_:=by rw[au hA (by omega) (by omega)];omega
  omega
 exact cu c4 (by subst hA;rfl)
def Xs (p0:ByteArray)(p1 p2 p3:Int):St:={sl:=.str p0::.ii p1::ql++.ii p2::.ii p3::.ii p1::Tp,bl:=[]}
theorem xR (A:ax)(hA:A=aj)(t:ByteArray)(at_:Int)(h0:0<=at_)(h1:at_ < (t.size:Int))(h2:bc t at_ < 128)(hz:t.size<=1048576):al 306 [.str t,.ii at_] (.aw [.ii (bc t at_),.ii (at_+1),.bool true]):=by
 have zt:=aS hA t;have jm:=(wu t at_).1;refine aY Tryz.func306 ?_;refine gx hA 3 ?_;refine gs (gs (gr (rn hA 3 ?_)));have aJ:=ff A hA at_ 0 (A.bA t) (by omega) (by omega);refine aH aJ (.inr rfl) ?_;refine rz hA 1 ?_;refine gc (λc3=>?_) (λc3=>?_)
 ·
  exact ay c3 (by subst hA;rfl)
 refine gk (gx hA 1 ?_);refine gx hA 1 ?_;refine gs (gx hA 2 ?_);refine af ?_;refine aF (λσ m=>σ=(Xs t at_ 0 1)/\(True)/\m=0) _ [] [0,1,7,8,9] [] _ rfl (by cbv) ⟨rfl,?_,rfl⟩ (λσ m hI=>?_)
 ·
  exact trivial
 obtain⟨rfl,_,rfl⟩:=hI;refine gs (gs (gr (rn hA 5 ?_)));refine ag 20 rfl (λc4=>?_) (λc4=>?_)
 ·
  have du:at_ < (A.bA t):=aP hA c4;refine rz hA 5 ?_;refine gc (λc5=>?_) (λc5=>?_)
  ·
   have fu:at_ < (A.num .add .i64 at_ 5):=aP hA c5;refine gk (gs (af (gs (gr (rn hA 3 ?_)))));have zy6:A.bA t=(aaL t:Int):=aS hA t;have a8:(0:Int)<=at_:=by omega
   have a7:at_ < (aaL t:Int):=by omega
   obtain⟨y6,Rb⟩:=nm (bc t at_:Int);refine bO rfl rfl (ml rfl rfl rfl rfl a8 a7 Rb) ?_;refine rz hA 6 ?_;refine gs ?_;have wy:y6=bc t at_:=Rb;have wx:A.cw .i64 y6=bc t at_:=by rw[Cg hA (by unfold i64;omega),wy]
   have wr:A.num .rem .i64 (A.cw .i64 y6) 128=bc t at_:=by rw[wx,G8 hA,Int.tmod_eq_emod_of_nonneg jm];omega
   have wm:A.num .mul .i64 (A.num .rem .i64 (A.cw .i64 y6) 128) 1=bc t at_:=by rw[num_mul hA (by rw[wr];unfold i64;omega),wr];omega
   have wn:A.num .add .i64 0 (A.num .mul .i64 (A.num .rem .i64 (A.cw .i64 y6) 128) 1)=bc t at_:=by rw[wm,au hA (by omega) (by omega)];omega
   refine gy hA 3 ?_;refine gs (gr (rn hA 2 ?_));have zy7:A.bA t=(aaL t:Int):=aS hA t;have b0:(0:Int)<=at_:=by omega
   have b3:at_ < (aaL t:Int):=by omega
   obtain⟨y7,M1⟩:=nm (bc t at_:Int);refine bO rfl rfl (ml rfl rfl rfl rfl b0 b3 M1) ?_;refine rz hA 1 ?_;refine gc (λc8=>?_) (λc8=>?_)
   ·
    have gz:y7 < 128:=aP hA c8;refine gs (gs ?_);have w1:A.num .add .i64 at_ 1=at_+1:=by rw[au hA (by omega) (by omega)]
    have wv:strOfNums (dp A (bc t at_))=t.extract (aaO at_) (aaO (at_+1)):=by
     rw[Nt hA jm h2,show aaO (at_+1)=aaO at_+1 by omega,Va (by omega),Int.toNat_of_nonneg h0]
    refine cz [0,1,2,3,4,5,6,7,8,9,10,11] (by cbv) ?_;refine bL hA 3 ?_;refine bV 45 rfl (λc9=>?_) (λc9=>?_)
    ·
     have po:1000000000 < (A.num .add .i64 0 (A.num .mul .i64 (A.num .rem .i64 (A.cw .i64 y6) 128) 1)):=dJ hA c9;exfalso;rw[wn] at po;omega
    have po:(A.num .add .i64 0 (A.num .mul .i64 (A.num .rem .i64 (A.cw .i64 y6) 128) 1))<=1000000000:=dL hA c9;refine bL hA 1 ?_;obtain⟨a4,a5,b4⟩:=fe (ef A hA (A.num .add .i64 0 (A.num .mul .i64 (A.num .rem .i64 (A.cw .i64 y6) 128) 1)) (by omega) (by omega));have b5:aaL a4<=5:=by rw[a5,bg,eI];exact cq _ (by omega)
    refine fE rfl rfl rfl rfl (by cbv) (by cbv) b4 (.inr rfl) ?_;refine bL hA 4 ?_;obtain⟨Nl,a6⟩:=nm (abE t (aaO at_) (aaO (A.num .add .i64 at_ 1)):ByteArray);have b6:(0:Int)<=at_:=by omega
    have b7:at_<=(A.num .add .i64 at_ 1):=by omega
    have b2:(A.num .add .i64 at_ 1)<=(aaL t:Int):=by omega
    have b9:(aaL Nl:Int)=(A.num .add .i64 at_ 1) - at_:=by rw[a6,aa3];omega
    refine PK rfl rfl rfl rfl (tQ rfl rfl rfl rfl rfl b6 b7 b2 a6) ?_;refine dz hA 2 ?_;refine gc (λeU=>?_) (λeU=>?_)
    ·
     have a9:a4≠Nl:=mm hA eU;exact absurd (by rw[a5,a6,wn,wv,w1]) a9
    have a9:a4=Nl:=na hA eU;refine gk (gx hA 6 ?_);refine rt (gt ?_);show _=PV.aw [.ii (A.num .add .i64 0 (A.num .mul .i64 (A.num .rem .i64 (A.cw .i64 y6) 128) 1)),.ii (A.num .add .i64 at_ 1),.bool true];rw[wn,w1]
   have gz:128<=y7:=aQ hA c8;exfalso;omega
  have fu:(A.num .add .i64 at_ 5)<=at_:=aQ hA c5;exfalso;rw[au hA (by omega) (by omega)] at fu;omega
 have du:(A.bA t)<=at_:=aQ hA c4;exfalso;omega
theorem va (A:ax)(hA:A=aj)(t:ByteArray)(at_:Int)(h0:0<=at_)(h1:at_ < (t.size:Int))(h2:bc t at_ < 128)(h3:at_+1+bc t at_<=(t.size:Int))(hz:t.size<=1048576):al 332 [.str t,.ii at_] (.aw [.str (t.extract (aaO (at_+1)) (aaO (at_+1+bc t at_))),.ii (at_+1+bc t at_),.bool true]):=by
 have zt:=aS hA t;have jm:=(wu t at_).1;refine aY Tryz.func332 ?_;refine gx hA 3 ?_;refine gs (gr (rn hA 2 ?_));obtain⟨a1,a0,a3,a2,aJ⟩:=G9 (xQ A hA t at_ (by omega) (by omega) (by omega) (by assumption));refine aH aJ (.inr rfl) ?_;refine rz hA 7 ?_;refine gs (gs ?_);have ws:A.num .sub .i64 (A.bA t) a0=(t.size:Int) - (at_+1):=by rw[a2,dE hA (by omega) (by omega)];omega
 refine gr (rn hA 3 ?_);refine ag 19 rfl (λc3=>?_) (λc3=>?_)
 ·
  exact ay c3 (by subst hA;rfl)
 refine rn hA 4 ?_;refine ag 23 rfl (λc4=>?_) (λc4=>?_)
 ·
  have du:20000 < a1:=dJ hA c4;exfalso;omega
 have du:a1<=20000:=dL hA c4;refine rz hA 7 ?_;refine gc (λc5=>?_) (λc5=>?_)
 ·
  have fu:(A.num .sub .i64 (A.bA t) a0) < a1:=dJ hA c5;exfalso;omega
 have fu:a1<=(A.num .sub .i64 (A.bA t) a0):=dL hA c5;refine gk (gs ?_);have wb:A.num .add .i64 a0 a1=at_+1+bc t at_:=by rw[a3,a2,au hA (by omega) (by omega)]
 refine gr (rn hA 5 ?_);obtain⟨s6,Bs⟩:=nm (abE t (aaO a0) (aaO (A.num .add .i64 a0 a1)):ByteArray);have Xt:(0:Int)<=a0:=by omega
 have Xu:a0<=(A.num .add .i64 a0 a1):=by omega
 have Xv:(A.num .add .i64 a0 a1)<=(aaL t:Int):=by omega
 have zs6:(aaL s6:Int)=(A.num .add .i64 a0 a1) - a0:=by rw[Bs,aa3];omega
 refine fk rfl (tQ rfl rfl rfl rfl rfl Xt Xu Xv Bs) ?_;refine rz hA 6 ?_;refine rt (gt ?_);show _=PV.aw [.str s6,.ii (A.num .add .i64 a0 a1),.bool true];rw[Bs,wb,a2]
theorem vc (A:ax)(hA:A=aj)(t:ByteArray)(at_:Int)(h0:0<=at_)(h1:at_ < (t.size:Int))(h2:bc t at_ < 128)(h3:at_+1+bc t at_<=(t.size:Int))(hz:t.size<=1048576):al 307 [.str t,.ii at_] (.aw [.str (t.extract (aaO (at_+1)) (aaO (at_+1+bc t at_))),.ii (at_+1+bc t at_),.bool true]):=by
 have zt:=aS hA t;have jm:=(wu t at_).1;refine aY Tryz.func307 ?_;refine gx hA 3 ?_;refine gs (gr (rn hA 2 ?_));obtain⟨a1,a0,a3,a2,aJ⟩:=G9 (xR A hA t at_ (by omega) (by omega) (by omega) (by assumption));refine aH aJ (.inr rfl) ?_;refine rz hA 7 ?_;refine gs (gs ?_);have ws:A.num .sub .i64 (A.bA t) a0=(t.size:Int) - (at_+1):=by rw[a2,dE hA (by omega) (by omega)];omega
 refine gr (rn hA 3 ?_);refine ag 19 rfl (λc3=>?_) (λc3=>?_)
 ·
  exact ay c3 (by subst hA;rfl)
 refine rn hA 4 ?_;refine ag 23 rfl (λc4=>?_) (λc4=>?_)
 ·
  have du:20000 < a1:=dJ hA c4;exfalso;omega
 have du:a1<=20000:=dL hA c4;refine rz hA 7 ?_;refine gc (λc5=>?_) (λc5=>?_)
 ·
  have fu:(A.num .sub .i64 (A.bA t) a0) < a1:=dJ hA c5;exfalso;omega
 have fu:a1<=(A.num .sub .i64 (A.bA t) a0):=dL hA c5;refine gk (gs ?_);have wb:A.num .add .i64 a0 a1=at_+1+bc t at_:=by rw[a3,a2,au hA (by omega) (by omega)]
 refine gr (rn hA 5 ?_);obtain⟨s6,Bs⟩:=nm (abE t (aaO a0) (aaO (A.num .add .i64 a0 a1)):ByteArray);have Xt:(0:Int)<=a0:=by omega
 have Xu:a0<=(A.num .add .i64 a0 a1):=by omega
 have Xv:(A.num .add .i64 a0 a1)<=(aaL t:Int):=by omega
 have zs6:(aaL s6:Int)=(A.num .add .i64 a0 a1) - a0:=by rw[Bs,aa3];omega
 refine fk rfl (tQ rfl rfl rfl rfl rfl Xt Xu Xv Bs) ?_;refine rz hA 6 ?_;refine rt (gt ?_);show _=PV.aw [.str s6,.ii (A.num .add .i64 a0 a1),.bool true];rw[Bs,wb,a2]
def Xf (p0:Int)(p1:ByteArray)(p2:RR)(p3 p4:Int):St:={sl:=.aa::.ii p0::iB++.str p1::vg++.sl 2 p2::.ii p3::.ii p4::Th,bl:=[]}
theorem td (A:ax)(hA:A=aj)(d:bj)(at_:Int)(hd:eM d)(h0:0<=at_)(h1:at_ < (d.aD.length:Int)):al 189 [.agg (gf d),.ii at_] (.aw [.str (lq at_ (kI d.aD at_) d.Cache),.bool true]):=by
 obtain⟨a0,a1⟩:=d;obtain⟨a4,a3,b1⟩:=nr hA ah a0;obtain⟨a2,a5,b3⟩:=nr hA bn a1;refine ak (az:=[.agg [.sl 1 a4,.sl 2 a2],.ii at_]) (by subst a3 a5;rfl) ?_;have iy:=hd;obtain⟨cN,dO,eV,dx,ew⟩:=hd;have cN:1<=aaK a0:=cN;have dO:aaK a0<=100:=dO;have eV:aaK a1<=60:=eV;have dx:∀ s∈a0,s.size=32:=dx;have ew:∀ w∈a1,0<=w.At/\w.At < (a0.length:Int)/\w.Text.size=32:=ew;have h1:at_ < (a0.length:Int):=h1;refine aY Tryz.func189 ?_;refine gx hA 3 ?_;refine gs (gs (gr (rn hA 5 ?_)));have aJ:=gO A hA at_ 0 (A.num .sub .i64 (A.ao a4) 1) (by omega) (by rw[dE hA (by omega) (by omega)];omega);refine aH aJ (.inr rfl) ?_;refine rz hA 1 ?_;refine gc (λc3=>?_) (λc3=>?_)
 ·
  exact ay c3 (by subst hA;rfl)
 refine gk (gs (gr (rn hA 3 ?_)));obtain⟨g1,g6,x4,AX,g3⟩:=ga a0 at_ (by omega) (by omega);have g0:a4[(aaO at_)]? =some [.str x4]:=by
  exact bC ah a3 AX
 have ug:kI a0 at_=x4:=Fy AX;refine ee g1 g0 ?_;refine rz hA 2 ?_;refine gs (gx hA 4 ?_);refine af ?_;refine aF (λσ m=>∃(i:Nat) (n:Int) (s1:ByteArray),σ=(Xf at_ s1 a2 (A.ao a2) n)/\(n=(i:Int)/\i<=aaK a1/\s1=lq at_ (kI a0 at_) (a1.take i))/\m=aaK a1 - i) _ [.up 2] [1,6,22,23,24] [] _ rfl (by cbv) ⟨0,0,x4,rfl,?_,rfl⟩ (λσ m hI=>?_)
 ·
  exact⟨rfl,aaW _,ug.symm⟩
 obtain⟨i,n,s1,rfl,⟨hn,hi,hS⟩,rfl⟩:=hI;refine gx hA 1 ?_;refine gs ?_;refine gc (λc5=>?_) (λc5=>?_)
 ·
  have fu:n < (A.ao a2):=aP hA c5;refine gk (gs (af (gs (gr ?_))));obtain⟨f9,g2,x6,IB,g8⟩:=ga a1 n (by omega) (by omega);obtain⟨d5,b9⟩:=x6;have f8:a2[(aaO n)]? =some [.ii d5,.str b9]:=by
   exact bC bn a5 IB
  have d7:=IB;rw[hn] at d7;have d7:(a1)[i]? =some (⟨d5,b9⟩:br):=d7;refine ee f9 f8 ?_;refine rz hA 3 ?_;refine gx hA 4 ?_;refine gc (λc7=>?_) (λc7=>?_)
  ·
   have jx:d5=at_:=eE hA c7;refine gy hA 3 ?_;refine gy hA 2 ?_;refine⟨_,_,?_,by cbv,i+1,(A.num .add .i64 n 1),b9,rfl,?_,rfl⟩
   ·
    omega
   refine⟨by rw[au hA (by omega) (by omega)];omega,by omega,?_⟩;rw[DW d7,if_pos jx]
  have jx:d5≠at_:=eF hA c7;refine gk (gy hA 2 ?_);refine⟨_,_,?_,by cbv,i+1,(A.num .add .i64 n 1),s1,rfl,?_,rfl⟩
  ·
   omega
  refine⟨by rw[au hA (by omega) (by omega)];omega,by omega,?_⟩;rw[DW d7,if_neg jx];exact hS
 have fu:(A.ao a2)<=n:=aQ hA c5;refine aI (gE ?_);refine gx hA 3 ?_;refine rt (gt ?_);show _=PV.aw [.str s1,.bool true];rw[hS,aaU (by omega)]
def Xg (p0 p1:Int)(p2 p3:RR):St:={sl:=.aa::.ii p0::.pt 2 0 0::dV++.ii p1::NM,bl:=[(2,⟨.var,2,[[.sl 1 p2,.sl 2 p3]]⟩)]}
theorem te (A:ax)(hA:A=aj)(d:bj)(at_:Int)(hd:eM d)(h0:0<=at_)(h1:at_ < (d.aD.length:Int)):al 149 [.agg (gf d),.ii at_] (.aw [.str (lq at_ (kI d.aD at_) d.Cache),.bool true]):=by
 obtain⟨a0,a1⟩:=d;obtain⟨a4,a3,b1⟩:=nr hA ah a0;obtain⟨a2,a5,b3⟩:=nr hA bn a1;refine ak (az:=[.agg [.sl 1 a4,.sl 2 a2],.ii at_]) (by subst a3 a5;rfl) ?_;have iy:=hd;obtain⟨cN,dO,eV,dx,ew⟩:=hd;have cN:1<=aaK a0:=cN;have dO:aaK a0<=100:=dO;have eV:aaK a1<=60:=eV;have dx:∀ s∈a0,s.size=32:=dx;have ew:∀ w∈a1,0<=w.At/\w.At < (a0.length:Int)/\w.Text.size=32:=ew;have h1:at_ < (a0.length:Int):=h1;refine aY Tryz.func149 ?_;refine gx hA 3 ?_;refine gs (gs (gr (rn hA 5 ?_)));have aJ:=ff A hA at_ 0 (A.num .sub .i64 (A.ao a4) 1) (by omega) (by rw[dE hA (by omega) (by omega)];omega);refine aH aJ (.inr rfl) ?_;refine rz hA 1 ?_;refine gc (λc3=>?_) (λc3=>?_)
 ·
  exact ay c3 (by subst hA;rfl)
 refine gk (gs (gx hA 5 ?_));refine af ?_;refine aF (λσ m=>∃(j:Nat) (n:Int),σ=(Xg at_ n a4 a2)/\(n=(j:Int) - 1/\j<=aaK a1/\∀ x∈a1.drop j,x.At≠at_)/\m=(j+1)) _ [] [1,2,6] [2] _ rfl (by cbv) ⟨(aaK a1),(A.num .sub .i64 (A.ao a2) 1),rfl,?_,rfl⟩ (λσ m hI=>?_)
 ·
  exact⟨by rw[dE hA (by omega) (by omega)];omega,Nat.le_refl _,by rw[List.drop_length];intro x hx;cases hx⟩
 obtain⟨j,n,rfl,⟨hn,hi,hN⟩,rfl⟩:=hI;refine gs (gx hA 2 ?_);refine gc (λc4=>?_) (λc4=>?_)
 ·
  have du:0<=n:=qy hA c4;refine gk (gs (af (gs (gr (rn hA 3 ?_)))));obtain⟨f4,g7,x5,CU,g4⟩:=ga a1 n (by omega) (by omega);obtain⟨d4,d1⟩:=x5;have f1:a2[(aaO n)]? =some [.ii d4,.str d1]:=by
   exact bC bn a5 CU
  have d9:=CU;rw[show aaO n=j - 1 by omega] at d9;have d9:(a1)[j - 1]? =some (⟨d4,d1⟩:br):=d9;refine ee f4 f1 ?_;refine rz hA 4 ?_;refine gc (λc6=>?_) (λc6=>?_)
  ·
   have cp:d4=at_:=eE hA c6;refine gs (gr (rn hA 3 ?_));refine ee f4 f1 ?_;refine rz hA 4 ?_;refine rt (gt ?_);show _=PV.aw [.str d1,.bool true];rw[Q4 d9 cp (by rw[show j - 1+1=j by omega];exact hN)]
  have cp:d4≠at_:=eF hA c6;refine gk (gy hA 3 ?_);refine⟨_,_,?_,by cbv,(j - 1),(A.num .sub .i64 n 1),rfl,?_,rfl⟩
  ·
   omega
  refine⟨by rw[dE hA (by omega) (by omega)];omega,by omega,?_⟩;exact U9 d9 cp (by rw[show j - 1+1=j by omega];exact hN)
 have du:n < 0:=qz hA c4;refine aI (gE ?_);refine gs (gr (rn hA 3 ?_));obtain⟨c2,f5,x7,ov,e2⟩:=ga a0 at_ (by omega) (by omega);have d0:a4[(aaO at_)]? =some [.str x7]:=by
  exact bC ah a3 ov
 refine ee c2 d0 ?_;refine rz hA 3 ?_;refine rt (gt ?_);show _=PV.aw [.str x7,.bool true];rw[tL (by rw[show j=0 by omega] at hN;exact hN),Fy ov]
theorem Bu (A:ax)(hA:A=aj)(d:bj)(at_:Int)(t:ByteArray)(hd:eM d)(h0:0<=at_)(h1:at_ < (d.aD.length:Int))(h2:t.size=32)(h3:d.Cache.length < 60):al 190 [.agg (gf d),.ii at_,.str t] (.aw [.agg (jo ⟨d.aD,d.Cache++[⟨at_,t⟩]⟩),.bool true]):=by
 obtain⟨a0,a1⟩:=d;obtain⟨a4,a3,b1⟩:=nr hA ah a0;obtain⟨a2,a5,b3⟩:=nr hA bn a1;refine ak (az:=[.agg [.sl 1 a4,.sl 2 a2],.ii at_,.str t]) (by subst a3 a5;rfl) ?_;have iy:=hd;obtain⟨cN,dO,eV,dx,ew⟩:=hd;have cN:1<=aaK a0:=cN;have dO:aaK a0<=100:=dO;have eV:aaK a1<=60:=eV;have dx:∀ s∈a0,s.size=32:=dx;have ew:∀ w∈a1,0<=w.At/\w.At < (a0.length:Int)/\w.Text.size=32:=ew;have h1:at_ < (a0.length:Int):=h1;have h3:a1.length < 60:=h3;have zt:=aS hA t;have hd7:eM ⟨a0,a1++[(⟨at_,t⟩:br)]⟩:=by
  refine⟨cN,dO,by show(a1++[(⟨at_,t⟩:br)]).length<=60;rw[aaY];simp;omega,dx,λw hw=>?_⟩;rcases aaV.1 hw with hw | hw
  ·exact ew w hw
  rw[aba.1 hw];exact⟨h0,h1,h2⟩
 have hz:∀ k∈db (⟨a0,a1⟩:bj),k<=1048576:=su iy;refine aY Tryz.func190 ?_;refine gx hA 3 ?_;refine gs (gr (rn hA 1 ?_));obtain⟨b2,a9,a7,a8,aJ⟩:=yI (aaN ah a0) (aaN aU a1) (kW A hA (⟨a0,a1⟩:bj) (by assumption));have c1:=ab hA a7;have d6:=ab hA a8;refine aH aJ (.inr rfl) ?_ (hv:=by subst a3 a5;rfl);refine rz hA 2 ?_;refine gs (gr (rn hA 6 ?_));obtain⟨r3,dS⟩:=nm (a9++[[.ii at_,.str t]]:RR);have jv:r3=aaN aU (a1++([(⟨at_,t⟩:br)])):=by rw[dS];exact cM a8 (by rfl)
 have AR:=ab hA jv;refine ju dS ?_ (hl:=by
  show(aaK a9+aaK ([[.ii at_,.str t]])) * _<=_;show(aaK a9+1) * 24<=_;rw[a8,aaS];omega)
 refine rz hA 2 ?_;refine gs (gs (gr (rn hA 1 ?_)));have eu:=nj A hA (⟨a0,a1⟩:bj) (by assumption);refine aH eu (.inr rfl) ?_ (hv:=by subst a3 a5;rfl);refine rn hA 2 ?_;refine ag 22 rfl (λc6=>?_) (λc6=>?_)
 ·
  exact ay c6 (by subst hA;rfl)
 refine rn hA 1 ?_;have jQ:al 114 [.agg [.sl 1 (ar b2),.sl 2 (ar r3)]] (.bool true):=by subst a7 jv;simp only[bS,cE];exact nj A hA (⟨a0,a1++[(⟨at_,t⟩:br)]⟩:bj) (by assumption)
 refine fC jQ (.inl trivial) ?_;refine rz hA 2 ?_;refine gc (λc9=>?_) (λc9=>?_)
 ·
  exact ay c9 (by subst hA;rfl)
 refine gk (gx hA 3 ?_);refine rt (gt ?_);show _=PV.aw [.agg [.ow 1 b2,.ow 2 r3],.bool true];simp only[a7,jv];rfl
theorem Bv (A:ax)(hA:A=aj)(d:bj)(at_:Int)(t:ByteArray)(hd:eM d)(h0:0<=at_)(h1:at_ < (d.aD.length:Int))(h2:t.size=32)(h3:d.Cache.length < 60):al 150 [.agg (gf d),.ii at_,.str t] (.aw [.agg (jo ⟨d.aD,d.Cache++[⟨at_,t⟩]⟩),.bool true]):=by
 obtain⟨a0,a1⟩:=d;obtain⟨a4,a3,b1⟩:=nr hA ah a0;obtain⟨a2,a5,b3⟩:=nr hA bn a1;refine ak (az:=[.agg [.sl 1 a4,.sl 2 a2],.ii at_,.str t]) (by subst a3 a5;rfl) ?_;have iy:=hd;obtain⟨cN,dO,eV,dx,ew⟩:=hd;have cN:1<=aaK a0:=cN;have dO:aaK a0<=100:=dO;have eV:aaK a1<=60:=eV;have dx:∀ s∈a0,s.size=32:=dx;have ew:∀ w∈a1,0<=w.At/\w.At < (a0.length:Int)/\w.Text.size=32:=ew;have h1:at_ < (a0.length:Int):=h1;have h3:a1.length < 60:=h3;have zt:=aS hA t;have hd7:eM ⟨a0,a1++[(⟨at_,t⟩:br)]⟩:=by
  refine⟨cN,dO,by show(a1++[(⟨at_,t⟩:br)]).length<=60;rw[aaY];simp;omega,dx,λw hw=>?_⟩;rcases aaV.1 hw with hw | hw
  ·exact ew w hw
  rw[aba.1 hw];exact⟨h0,h1,h2⟩
 have hz:∀ k∈db (⟨a0,a1⟩:bj),k<=1048576:=su iy;refine aY Tryz.func150 ?_;refine gx hA 3 ?_;refine gs (gr (rn hA 1 ?_));obtain⟨b2,a9,a7,a8,aJ⟩:=yI (aaN ah a0) (aaN aU a1) (oL A hA (⟨a0,a1⟩:bj) (by assumption));have c1:=ab hA a7;have d6:=ab hA a8;refine aH aJ (.inr rfl) ?_ (hv:=by subst a3 a5;rfl);refine rz hA 2 ?_;refine gs (gs (gr (rn hA 1 ?_)));have cL:=nk A hA (⟨a0,a1⟩:bj) (by assumption);refine aH cL (.inr rfl) ?_ (hv:=by subst a3 a5;rfl);refine rn hA 2 ?_;refine ag 14 rfl (λc5=>?_) (λc5=>?_)
 ·
  exact ay c5 (by subst hA;rfl)
 refine rn hA 5 ?_;have fq:=ff A hA at_ 0 (A.num .sub .i64 (A.ao a4) 1) (by omega) (by rw[dE hA (by omega) (by omega)];omega);refine fC fq (.inr rfl) ?_;refine rn hA 3 ?_;refine ag 23 rfl (λc8=>?_) (λc8=>?_)
 ·
  exact ay c8 (by subst hA;rfl)
 refine rn hA 5 ?_;refine ag 28 rfl (λc9=>?_) (λc9=>?_)
 ·
  have po:(A.bA t)≠32:=gp hA c9;exact absurd (by omega) po
 have po:(A.bA t)=32:=gq hA c9;refine rz hA 5 ?_;refine gc (λcB=>?_) (λcB=>?_)
 ·
  have f2:60<=(A.ao a2):=qy hA cB;exact absurd f2 (by omega)
 have f2:(A.ao a2) < 60:=qz hA cB;refine gk (gs (gr (rn hA 6 ?_)));obtain⟨Q5,f0⟩:=nm (a9++[[.ii at_,.str t]]:RR);have f3:Q5=aaN aU (a1++([(⟨at_,t⟩:br)])):=by rw[f0];exact cM a8 (by rfl)
 have g5:=ab hA f3;refine ju f0 ?_ (hl:=by
  show(aaK a9+aaK ([[.ii at_,.str t]])) * _<=_;show(aaK a9+1) * 24<=_;rw[a8,aaS];omega)
 refine rz hA 2 ?_;refine gx hA 3 ?_;refine rt (gt ?_);show _=PV.aw [.agg [.ow 1 b2,.ow 2 Q5],.bool true];simp only[a7,f3];rfl
def Xh (p0:RR)(p1 p2:Int)(p3 p4:RR):St:={sl:=.aa::.aa::.pt 2 0 0::.pt 3 0 0::F4++.sl 2 p0::.ii p1::.ii p2::xZ,bl:=[(2,⟨.var,2,[[.zc,.zc]]⟩),(3,⟨.var,2,[[.own 7,.own 1007]]⟩),(7,⟨.arr,1,p3⟩),(1007,⟨.arr,2,p4⟩)]}
theorem pO (A:ax)(hA:A=aj)(d:bj)(hd:eM d):al 112 [.agg (gf d)] (.agg (jo ⟨fl d.aD d.Cache,[]⟩)):=by
 obtain⟨a0,a1⟩:=d;obtain⟨a4,a3,b1⟩:=nr hA ah a0;obtain⟨a2,a5,b3⟩:=nr hA bn a1;refine ak (az:=[.agg [.sl 1 a4,.sl 2 a2]]) (by subst a3 a5;rfl) ?_;have iy:=hd;obtain⟨cN,dO,eV,dx,ew⟩:=hd;have cN:1<=aaK a0:=cN;have dO:aaK a0<=100:=dO;have eV:aaK a1<=60:=eV;have dx:∀ s∈a0,s.size=32:=dx;have ew:∀ w∈a1,0<=w.At/\w.At < (a0.length:Int)/\w.Text.size=32:=ew;have hz:∀ k∈db (⟨a0,a1⟩:bj),k<=1048576:=su iy;refine aY Tryz.func112 ?_;refine gx hA 2 ?_;refine gs (gr (rn hA 1 ?_));obtain⟨b7,b5,d2,e0,aJ⟩:=yI (aaN ah a0) (aaN aU a1) (kW A hA (⟨a0,a1⟩:bj) (by assumption));have e8:=ab hA d2;have f7:=ab hA e0;refine aH aJ (.inr rfl) ?_ (hv:=by subst a3 a5;rfl);refine rz hA 2 ?_;refine gs (gs (gr (rn hA 1 ?_)));have cL:=nj A hA (⟨a0,a1⟩:bj) (by assumption);refine aH cL (.inr rfl) ?_ (hv:=by subst a3 a5;rfl);refine rz hA 1 ?_;refine gc (λc5=>?_) (λc5=>?_)
 ·
  exact ay c5 (by subst hA;rfl)
 refine gk (gs (gx hA 4 ?_));refine af ?_;refine aF (λσ m=>∃(i:Nat) (n:Int) (R:RR),σ=(Xh a2 (A.ao a2) n R b5)/\(n=(i:Int)/\i<=aaK a1/\R=aaN ah (fl a0 (a1.take i)))/\m=aaK a1 - i) _ [.up 1007,.up 7,.up 3,.up 2,.up 1] [2,3,13,14,15] [2,3,7,1007] _ rfl (by cbv) ⟨0,0,b7,rfl,?_,rfl⟩ (λσ m hI=>?_)
 ·
  exact⟨rfl,aaW _,by assumption⟩
 obtain⟨i,n,R,rfl,⟨hn,hi,hR⟩,rfl⟩:=hI;refine gx hA 1 ?_;refine gs ?_;refine gc (λc6=>?_) (λc6=>?_)
 ·
  have cp:n < (A.ao a2):=aP hA c6;refine gk (gs (af (gs (gr ?_))));obtain⟨c2,f5,x7,ov,e2⟩:=ga a1 n (by omega) (by omega);obtain⟨a6,b0⟩:=x7;have d0:a2[(aaO n)]? =some [.ii a6,.str b0]:=by
   exact bC bn a5 ov
  have b4:=ov;rw[hn] at b4;have b4:(a1)[i]? =some (⟨a6,b0⟩:br):=b4;obtain⟨d8,c0,_⟩:=ew _ e2;have d8:0<=a6:=d8;have c0:a6 < (a0.length:Int):=c0;refine ee c2 d0 ?_;refine rz hA 3 ?_;refine gr (rn hA 6 ?_);have e5:(0:Int)<=a6:=by
   have:=mv a0 (a1.take i);omega
  have e3:a6 < (aaK (fl a0 (a1.take i)):Int):=by
   have:=mv a0 (a1.take i);omega
  have e4:a6 < (aaK R:Int):=by rw[hR,aaS];exact e3
  obtain⟨Q6,e7⟩:∃ x,((fl a0 (a1.take i)))[aaO a6]? =some x:=⟨_,aa7 (by omega)⟩;refine nH e5 e4 ?_;have e6:R[aaO a6]? =some (ah Q6):=by rw[hR,ab6,e7];rfl
  obtain⟨w9,zI⟩:=nm (List.set R (aaO a6) [.str b0]:RR);have Xi:w9=aaN ah (List.set (fl a0 (a1.take i)) (aaO a6) b0):=by rw[zI,hR,List.map_set];rfl
  refine bO rfl rfl (ik (r:=ah Q6) (cs:=[.str b0]) rfl rfl rfl rfl rfl ⟨_,_,rfl⟩ rfl rfl e6 rfl zI) ?_;refine od ?_;refine gy hA 2 ?_;refine⟨_,_,?_,by cbv,i+1,(A.num .add .i64 n 1),w9,rfl,?_,rfl⟩
  ·
   omega
  refine⟨by rw[au hA (by omega) (by omega)];omega,by omega,?_⟩;rw[Ud b4];exact Xi
 have cp:(A.ao a2)<=n:=aQ hA c6;refine aI (gE ?_);refine gs (gB (rn hA 2 ?_));refine bY (tw:=[.cell 3 1 9001 2]) (by cbv) ?_;refine gx hA 2 ?_;refine rt (gt ?_);show _=(PV.agg [.ow 1 R,.ow 2 ([])]);simp only[hR,aaU (show aaK a1<=i by omega)];rfl
def ZG (p0:Int)(p1 p2 p3 p4:RR):St:={sl:=.aa::.pt 1 0 0::.pt 2 0 0::.pt 3 0 0::.ii p0::JB,bl:=[(1,⟨.var,2,[[.sl 1 p1,.sl 2 p2]]⟩),(2,⟨.var,2,[[.zc,.zc]]⟩),(3,⟨.var,2,[[.own 6,.own 1006]]⟩),(6,⟨.arr,1,p3⟩),(1006,⟨.arr,2,p4⟩)]}
theorem pP (A:ax)(hA:A=aj)(d:bj)(hd:eM d):al 86 [.agg (gf d)] (.agg (jo ⟨fl d.aD d.Cache,[]⟩)):=by
 obtain⟨a0,a1⟩:=d;obtain⟨a4,a3,b1⟩:=nr hA ah a0;obtain⟨a2,a5,b3⟩:=nr hA bn a1;refine ak (az:=[.agg [.sl 1 a4,.sl 2 a2]]) (by subst a3 a5;rfl) ?_;have iy:=hd;obtain⟨cN,dO,eV,dx,ew⟩:=hd;have cN:1<=aaK a0:=cN;have dO:aaK a0<=100:=dO;have eV:aaK a1<=60:=eV;have dx:∀ s∈a0,s.size=32:=dx;have ew:∀ w∈a1,0<=w.At/\w.At < (a0.length:Int)/\w.Text.size=32:=ew;have hz:∀ k∈db (⟨a0,a1⟩:bj),k<=1048576:=su iy;refine aY Tryz.func86 ?_;refine gx hA 2 ?_;refine gs (gr (rn hA 1 ?_));obtain⟨b8,b6,d3,e1,aJ⟩:=yI (aaN ah a0) (aaN aU a1) (oL A hA (⟨a0,a1⟩:bj) (by assumption));have e9:=ab hA d3;have f6:=ab hA e1;refine aH aJ (.inr rfl) ?_ (hv:=by subst a3 a5;rfl);refine rz hA 2 ?_;refine gs (gs (gr (rn hA 1 ?_)));have cL:=nk A hA (⟨a0,a1⟩:bj) (by assumption);refine aH cL (.inr rfl) ?_ (hv:=by subst a3 a5;rfl);refine rz hA 1 ?_;refine gc (λc5=>?_) (λc5=>?_)
 ·
  exact ay c5 (by subst hA;rfl)
 refine gk (gs (gx hA 1 ?_));refine af ?_;refine aF (λσ m=>∃(i:Nat) (n:Int) (R:RR),σ=(ZG n a4 a2 R b6)/\(n=(i:Int)/\i<=aaK a1/\R=aaN ah (fl a0 (a1.take i)))/\m=aaK a1 - i) _ [.up 1006,.up 6,.up 3,.up 2,.up 1] [1,2,3,4] [1,2,3,6,1006] _ rfl (by cbv) ⟨0,0,b8,rfl,?_,rfl⟩ (λσ m hI=>?_)
 ·
  exact⟨rfl,aaW _,by assumption⟩
 obtain⟨i,n,R,rfl,⟨hn,hi,hR⟩,rfl⟩:=hI;refine gs (gx hA 5 ?_);refine gc (λc6=>?_) (λc6=>?_)
 ·
  have cp:n < (A.ao a2):=aP hA c6;refine gk (gs (af ?_));refine cR [0,1,2,3,4,5,6,7,8,9,10,11,12,13,14,15] (by cbv) ?_;refine cH hA 5 ?_;obtain⟨c2,f5,x7,ov,e2⟩:=ga a1 n (by omega) (by omega);obtain⟨a6,b0⟩:=x7;have d0:a2[(aaO n)]? =some [.ii a6,.str b0]:=by
   exact bC bn a5 ov
  have b4:=ov;rw[hn] at b4;have b4:(a1)[i]? =some (⟨a6,b0⟩:br):=b4;obtain⟨d8,c0,_⟩:=ew _ e2;have d8:0<=a6:=d8;have c0:a6 < (a0.length:Int):=c0;refine dc rfl rfl (jO rfl rfl rfl rfl rfl c2 rfl d0) ?_;refine cH hA 5 ?_;refine dc rfl rfl (jO rfl rfl rfl rfl rfl c2 rfl d0) ?_;refine cH hA 2 ?_;have e5:(0:Int)<=a6:=by
   have:=mv a0 (a1.take i);omega
  have e3:a6 < (aaK (fl a0 (a1.take i)):Int):=by
   have:=mv a0 (a1.take i);omega
  have e4:a6 < (aaK R:Int):=by rw[hR,aaS];exact e3
  obtain⟨Q6,e7⟩:∃ x,((fl a0 (a1.take i)))[aaO a6]? =some x:=⟨_,aa7 (by omega)⟩;refine dc rfl rfl (kO rfl rfl rfl rfl rfl rfl e5 e4 rfl) ?_;have e6:R[aaO a6]? =some (ah Q6):=by rw[hR,ab6,e7];rfl
  obtain⟨w9,zI⟩:=nm (List.set R (aaO a6) [.str b0]:RR);have Xi:w9=aaN ah (List.set (fl a0 (a1.take i)) (aaO a6) b0):=by rw[zI,hR,List.map_set];rfl
  refine Kt rfl rfl ⟨_,_,rfl⟩ rfl (ik (r:=ah Q6) (cs:=[.str b0]) rfl rfl rfl rfl rfl ⟨_,_,rfl⟩ rfl rfl e6 rfl zI) ?_;refine cS (by cbv) ?_;refine gy hA 3 ?_;refine⟨_,_,?_,by cbv,i+1,(A.num .add .i64 n 1),w9,rfl,?_,rfl⟩
  ·
   omega
  refine⟨by rw[au hA (by omega) (by omega)];omega,by omega,?_⟩;rw[Ud b4];exact Xi
 have cp:(A.ao a2)<=n:=aQ hA c6;refine aI (gE ?_);refine gx hA 3 ?_;refine gx hA 2 ?_;refine rt (gt ?_);show _=(PV.agg [.ow 1 R,.ow 2 ([])]);simp only[hR,aaU (show aaK a1<=i by omega)];rfl
def Xj (p0:Int)(p1:ByteArray)(p2 p3:Int)(p4 p5:RR):St:={sl:=.aa::.ii p0::.aa::.pt 3 0 0::iB++.str p1::F3++.ii p2::.ii p3::BJ,bl:=[(3,⟨.var,2,[[.sl 1 p4,.sl 2 p5]]⟩)]}
theorem Cp (A:ax)(hA:A=aj)(d:bj)(from_ n:Int)(hd:eM d)(hc:d.Cache=[])(h0:0<=from_)(h1:0<=n)(h2:from_+n<=(d.aD.length:Int)):al 330 [.agg (gf d),.ii from_,.ii n] (.aw [.str (bU ((abi (aaO from_) d.aD).take (aaO n))),.bool true]):=by
 obtain⟨a0,a2⟩:=d;obtain⟨a1,a4,a8⟩:=nr hA ah a0;obtain⟨a3,a5,b1⟩:=nr hA bn a2;refine ak (az:=[.agg [.sl 1 a1,.sl 2 a3],.ii from_,.ii n]) (by subst a4 a5;rfl) ?_;have iy:=hd;obtain⟨cN,dO,eV,dx,ew⟩:=hd;have cN:1<=aaK a0:=cN;have dO:aaK a0<=100:=dO;have eV:aaK a2<=60:=eV;have dx:∀ s∈a0,s.size=32:=dx;have ew:∀ w∈a2,0<=w.At/\w.At < (a0.length:Int)/\w.Text.size=32:=ew;have hc:a2=[]:=hc;have h2:from_+n<=(a0.length:Int):=h2;refine aY Tryz.func330 ?_;refine gx hA 3 ?_;refine gs (gs (gr (rn hA 1 ?_)));have aJ:=gO A hA n 0 100 (by omega) (by omega);refine aH aJ (.inr rfl) ?_;refine rz hA 1 ?_;refine gc (λc3=>?_) (λc3=>?_)
 ·
  exact ay c3 (by subst hA;rfl)
 refine gk (gx hA 1 ?_);refine gs (gx hA 2 ?_);refine af ?_;refine aF (λσ m=>∃(i:Nat) (n1:Int) (s1:ByteArray),σ=(Xj from_ s1 n n1 a1 a3)/\(n1=(i:Int)/\i<=aaO n/\s1=bU ((abi (aaO from_) a0).take i))/\m=aaO n - i) _ [] [1,3,8,15,16] [3] _ rfl (by cbv) ⟨0,0,(aaP #[]),rfl,?_,rfl⟩ (λσ m hI=>?_)
 ·
  exact⟨rfl,aaW _,rfl⟩
 obtain⟨i,n1,s1,rfl,⟨hn,hi,hS⟩,rfl⟩:=hI;have nX:=mM dx (aaO from_) i;rw[<- hS] at nX;have sT:A.num .add .i64 from_ n1=from_+(i:Int):=by rw[au hA (by omega) (by omega)];omega
 refine gx hA 1 ?_;refine gs ?_;refine gc (λc4=>?_) (λc4=>?_)
 ·
  have du:n1 < n:=aP hA c4;refine gk (gs (af (gx hA 2 ?_)));refine gs (gr (rn hA 4 ?_));obtain⟨a7,a9,kU⟩:=qY (lq (A.num .add .i64 from_ n1) (kI a0 (A.num .add .i64 from_ n1)) a2) true (td A hA (⟨a0,a2⟩:bj) (A.num .add .i64 from_ n1) (by assumption) (by omega) (by omega));refine aH kU (.inr rfl) ?_ (hv:=by subst a4 a5;rfl);refine rz hA 5 ?_;refine gs (gx hA 2 ?_);refine gc (λc7=>?_) (λc7=>?_)
  ·
   exact ay c7 (by subst hA;rfl)
  refine gk (gr (rn hA 2 ?_));obtain⟨s8,uU⟩:=nm (s1++a7:ByteArray);have W7:aaL s8=aaL s1+aaL a7:=by rw[uU];exact aaT
  have LH:aaL s1+aaL a7<=140737488355328:=by
   have hy:aaL a7=32:=by rw[a9,hc];exact qZ dx _
   omega
  refine zg uU LH ?_;refine rz hA 1 ?_;refine gy hA 2 ?_;refine⟨_,_,?_,by cbv,i+1,(A.num .add .i64 n1 1),s8,rfl,?_,rfl⟩
  ·
   omega
  refine⟨by rw[au hA (by omega) (by omega)];omega,by omega,?_⟩;rw[uU,a9,hc,hS,LK (k:=A.num .add .i64 from_ n1) (F:=aaO from_) (i:=i) (by omega) (by rw[au hA (by omega) (by omega)];omega)];rfl
 have du:n<=n1:=aQ hA c4;refine aI (gE ?_);refine gx hA 3 ?_;refine rt (gt ?_);show _=PV.aw [.str s1,.bool true];rw[hS,show i=aaO n by omega]
def Xk (p0 p1:Int)(p2:ByteArray)(p3:Int)(p4 p5:RR):St:={sl:=.aa::.ii p0::.ii p1::.pt 3 0 0::iB++.str p2::.ii p3::Tl,bl:=[(3,⟨.var,2,[[.sl 1 p4,.sl 2 p5]]⟩)]}
theorem Cq (A:ax)(hA:A=aj)(d:bj)(from_ n:Int)(hd:eM d)(hc:d.Cache=[])(h0:0<=from_)(h1:0<=n)(h2:from_+n<=(d.aD.length:Int)):al 305 [.agg (gf d),.ii from_,.ii n] (.aw [.str (bU ((abi (aaO from_) d.aD).take (aaO n))),.bool true]):=by
 obtain⟨a0,a2⟩:=d;obtain⟨a1,a4,a8⟩:=nr hA ah a0;obtain⟨a3,a5,b1⟩:=nr hA bn a2;refine ak (az:=[.agg [.sl 1 a1,.sl 2 a3],.ii from_,.ii n]) (by subst a4 a5;rfl) ?_;have iy:=hd;obtain⟨cN,dO,eV,dx,ew⟩:=hd;have cN:1<=aaK a0:=cN;have dO:aaK a0<=100:=dO;have eV:aaK a2<=60:=eV;have dx:∀ s∈a0,s.size=32:=dx;have ew:∀ w∈a2,0<=w.At/\w.At < (a0.length:Int)/\w.Text.size=32:=ew;have hc:a2=[]:=hc;have h2:from_+n<=(a0.length:Int):=h2;refine aY Tryz.func305 ?_;refine gx hA 3 ?_;refine gs (gs (gr (rn hA 1 ?_)));have aJ:=ff A hA n 0 100 (by omega) (by omega);refine aH aJ (.inr rfl) ?_;refine rz hA 1 ?_;refine gc (λc3=>?_) (λc3=>?_)
 ·
  exact ay c3 (by subst hA;rfl)
 refine gk (gx hA 1 ?_);refine gs (gx hA 1 ?_);refine af ?_;refine aF (λσ m=>∃(i:Nat) (n1:Int) (s1:ByteArray),σ=(Xk from_ n s1 n1 a1 a3)/\(n1=(i:Int)/\i<=aaO n/\s1=bU ((abi (aaO from_) a0).take i))/\m=aaO n - i) _ [] [1,2,3,8,9] [3] _ rfl (by cbv) ⟨0,0,(aaP #[]),rfl,?_,rfl⟩ (λσ m hI=>?_)
 ·
  exact⟨rfl,aaW _,rfl⟩
 obtain⟨i,n1,s1,rfl,⟨hn,hi,hS⟩,rfl⟩:=hI;have nX:=mM dx (aaO from_) i;rw[<- hS] at nX;have sT:A.num .add .i64 from_ n1=from_+(i:Int):=by rw[au hA (by omega) (by omega)];omega
 refine gs (gx hA 3 ?_);refine gc (λc4=>?_) (λc4=>?_)
 ·
  have du:n1 < n:=aP hA c4;refine gk (gs (af (gs (gs (gr (rn hA 3 ?_))))));refine ag 22 rfl (λc5=>?_) (λc5=>?_)
  ·
   have fu:from_ < 0:=aP hA c5;exfalso;omega
  have fu:0<=from_:=aQ hA c5;refine rz hA 6 ?_;refine gc (λc6=>?_) (λc6=>?_)
  ·
   have cp:(A.ao a1) < from_:=dJ hA c6;exfalso;omega
  have cp:from_<=(A.ao a1):=dL hA c6;refine gk (gs (gr (rn hA 4 ?_)));obtain⟨a6,b0,jQ⟩:=qY (lq (A.num .add .i64 from_ n1) (kI a0 (A.num .add .i64 from_ n1)) a2) true (te A hA (⟨a0,a2⟩:bj) (A.num .add .i64 from_ n1) (by assumption) (by omega) (by omega));refine aH jQ (.inr rfl) ?_ (hv:=by subst a4 a5;rfl);refine rz hA 5 ?_;refine gs (gx hA 2 ?_);refine gc (λc9=>?_) (λc9=>?_)
  ·
   exact ay c9 (by subst hA;rfl)
  refine gk (gr (rn hA 2 ?_));obtain⟨zH,b2⟩:=nm (s1++a6:ByteArray);have b4:aaL zH=aaL s1+aaL a6:=by rw[b2];exact aaT
  have b3:aaL s1+aaL a6<=140737488355328:=by
   have hy:aaL a6=32:=by rw[b0,hc];exact qZ dx _
   omega
  refine zg b2 b3 ?_;refine rz hA 1 ?_;refine gy hA 3 ?_;refine⟨_,_,?_,by cbv,i+1,(A.num .add .i64 n1 1),zH,rfl,?_,rfl⟩
  ·
   omega
  refine⟨by rw[au hA (by omega) (by omega)];omega,by omega,?_⟩;rw[b2,b0,hc,hS,LK (k:=A.num .add .i64 from_ n1) (F:=aaO from_) (i:=i) (by omega) (by rw[au hA (by omega) (by omega)];omega)];rfl
 have du:n<=n1:=aQ hA c4;refine aI (gE ?_);refine gx hA 3 ?_;refine rt (gt ?_);show _=PV.aw [.str s1,.bool true];rw[hS,show i=aaO n by omega]
def Xl (p0 p1:Int)(p2:ByteArray)(p3 p4 p5 p6:RR):St:={sl:=.aa::.ii p0::.ii p1::.str p2::iB++.pt 8 0 0::.aa::.pt 10 0 0::.pt 11 0 0::YO,bl:=[(8,⟨.var,2,[[.zc,.zc]]⟩),(10,⟨.var,2,[[.own 18,.own 1018]]⟩),(11,⟨.var,2,[[.own 33,.own 1033]]⟩),(18,⟨.arr,1,p3⟩),(33,⟨.arr,1,p4⟩),(1018,⟨.arr,2,p5⟩),(1033,⟨.arr,2,p6⟩)]}
theorem tf (A:ax)(hA:A=aj)(d:bj)(sector at_:Int)(t:ByteArray)(hd:eM d)(hc:d.Cache=[])(h0:0<=sector)(h1:sector < (d.aD.length:Int))(h2:0<=at_)(h3:sector * 32+at_+(t.size:Int)<=32 * (d.aD.length:Int))(h4:t.size<=1600):al 116 [.agg (gf d),.ii sector,.ii at_,.str t] (.aw [.agg (jo ⟨d.aD,wr d.aD (aaO sector) (aaO at_) t⟩),.bool true]):=by
 obtain⟨a0,a2⟩:=d;obtain⟨b3,a6,d4⟩:=nr hA ah a0;obtain⟨b9,b0,d7⟩:=nr hA bn a2;refine ak (az:=[.agg [.sl 1 b3,.sl 2 b9],.ii sector,.ii at_,.str t]) (by subst a6 b0;rfl) ?_;have iy:=hd;obtain⟨cN,dO,eV,dx,ew⟩:=hd;have cN:1<=aaK a0:=cN;have dO:aaK a0<=100:=dO;have eV:aaK a2<=60:=eV;have dx:∀ s∈a0,s.size=32:=dx;have ew:∀ w∈a2,0<=w.At/\w.At < (a0.length:Int)/\w.Text.size=32:=ew;have hc:a2=[]:=hc;have h1:sector < (a0.length:Int):=h1;have h3:sector * 32+at_+(t.size:Int)<=32 * (a0.length:Int):=h3;have hde:eM ⟨a0,[]⟩:=by rw[hc] at iy;exact iy
 have hz:∀ k∈db (⟨a0,a2⟩:bj),k<=1048576:=su iy;have zt:=aS hA t;refine aY Tryz.func116 ?_;refine gx hA 3 ?_;refine gs (gr (rn hA 1 ?_));obtain⟨a3,a8,b5,b6,aJ⟩:=yI (aaN ah a0) (aaN aU a2) (kW A hA (⟨a0,a2⟩:bj) (by assumption));have d2:=ab hA b5;have d6:=ab hA b6;refine aH aJ (.inr rfl) ?_ (hv:=by subst a6 b0;rfl);refine rz hA 2 ?_;refine gs (gs (gr (rn hA 1 ?_)));have cL:=gO A hA at_ 0 3200 (by omega) (by omega);refine aH cL (.inr rfl) ?_;refine rn hA 2 ?_;refine ag 22 rfl (λc5=>?_) (λc5=>?_)
 ·
  exact ay c5 (by subst hA;rfl)
 refine rn hA 5 ?_;have fq:=gO A hA sector 0 (A.num .sub .i64 (A.ao b3) 1) (by omega) (by rw[dE hA (by omega) (by omega)];omega);refine fC fq (.inr rfl) ?_;refine rz hA 2 ?_;refine gc (λc8=>?_) (λc8=>?_)
 ·
  exact ay c8 (by subst hA;rfl)
 refine gk (gs (gr (rn hA 1 ?_)));obtain⟨b1,b2,b4,b7,f0⟩:=yI (aaN ah a0) (aaN aU a2) (kW A hA (⟨a0,a2⟩:bj) (by assumption));have d3:=ab hA b4;have d5:=ab hA b7;refine aH f0 (.inr rfl) ?_ (hv:=by subst a6 b0;rfl);refine rz hA 2 ?_;refine gs (af ?_);refine aF (λσ m=>∃(i:Nat) (ws:List br) (s1:ByteArray) (n1:Int) (RS RC:RR),σ=(Xl sector n1 s1 a3 RS a8 RC)/\(s1=abE t i t.size/\n1=at_+(i:Int)/\RS=aaN ah a0/\RC=aaN aU ws/\wX a0 (aaO sector) (aaO at_) t i ws)/\m=t.size - i) _ [.up 1033,.up 1018,.up 33,.up 18,.up 11,.up 10,.up 8,.up 4] [1,2,3,8,10,11] [8,10,11,18,33,1018,1033] _ rfl (by cbv) ⟨0,[],t,at_,b1,b2,rfl,?_,rfl⟩ (λσ m hI=>?_)
 ·
  exact⟨ByteArray.extract_zero_size.symm,by omega,by assumption,by rw[<- hc];assumption,Q7 ..⟩
 obtain⟨i,ws,s1,n1,RS,RC,rfl,⟨AQ,ej,LL,LM,hI⟩,rfl⟩:=hI;have hi0:=hI.1;refine gs (gx hA 2 ?_);refine gc (λcf=>?_) (λcf=>?_)
 ·
  have c3:s1≠(aaP #[]):=mm hA cf;refine gk (af (gs ?_));have hp:=Xm c3;rw[AQ,aa3] at hp;have hlt:i < t.size:=by omega
  clear hp;obtain⟨q,r,k0,hq,hr,Kv,g1,g2,g3,g4,g5,g6⟩:=Nq (aaO at_) t i hlt;have wq:A.num .quo .i64 n1 32=(q:Int):=by rw[xM hA (by unfold i64;omega) (by omega),abF (by omega)];omega
  have wm:A.num .rem .i64 n1 32=(r:Int):=by rw[G8 hA,Int.tmod_eq_emod_of_nonneg (by omega)];omega
  have wk:A.num .add .i64 sector (A.num .quo .i64 n1 32)=sector+(q:Int):=by rw[au hA (by omega) (by omega)];omega
  have wK:Hid (A.num .add .i64 sector (A.num .quo .i64 n1 32)=(((aaO sector)+((aaO at_)+i) / 32:Nat):Int)):=by unfold Hid at hq ⊢;omega
  obtain⟨Q8,Xn⟩:=Nr hI hde h4;have Q9:0<=A.num .add .i64 sector (A.num .quo .i64 n1 32):=by omega
  have Ra:A.num .add .i64 sector (A.num .quo .i64 n1 32) < (a0.length:Int):=by omega
  refine gy hA 5 ?_;refine gx hA 3 ?_;refine gs (gr (rn hA 2 ?_));obtain⟨a1,b8,e4⟩:∃(a1:ByteArray),a1=(lq (A.num .add .i64 sector (A.num .quo .i64 n1 32)) (kI (a0) (A.num .add .i64 sector (A.num .quo .i64 n1 32))) (ws))/\al 189 [.agg [.sl 1 (ar RS),.sl 2 (ar RC)],.ii (A.num .add .i64 sector (A.num .quo .i64 n1 32))] (.aw [.str a1,.bool true]):=⟨_,rfl,by subst LL LM;simp only[bS,cE];exact td A hA (⟨(a0),(ws)⟩:bj) (A.num .add .i64 sector (A.num .quo .i64 n1 32)) Q8 Q9 Ra⟩;refine aH e4 (.inl (by simp only[fresh,cj,and_self])) ?_;refine rz hA 5 ?_;refine gs (gs ?_);have ho:a1=kI a0 (A.num .add .i64 sector (A.num .quo .i64 n1 32)):=by rw[b8,LN hI hlt wK]
  have zo:aaL a1=32:=by rw[ho];exact qZ dx _
  have zy:=aS hA a1;refine gr (rn hA 3 ?_);refine ag 50 rfl (λdF=>?_) (λdF=>?_)
  ·
   exact ay dF (by subst hA;rfl)
  refine rz hA 4 ?_;refine gc (λeL=>?_) (λeL=>?_)
  ·
   have d8:(A.bA a1)≠32:=gp hA eL;exfalso;omega
  have d8:(A.bA a1)=32:=gq hA eL;refine gk (gs (gr (rn hA 4 ?_)));obtain⟨m16,c9⟩:=nm (min (A.bA s1) (A.num .sub .i64 32 (A.num .rem .i64 n1 32)):Int);refine fk rfl (My rfl rfl rfl c9) ?_;refine rz hA 1 ?_;refine gs ?_;have zs1:=aS hA s1;have oX:(aaL s1:Int)=(t.size:Int) - (i:Int):=by rw[AQ,aa3];omega
  have wb:A.num .sub .i64 32 (A.num .rem .i64 n1 32)=32 - (r:Int):=by rw[dE hA (by omega) (by omega)];omega
  have hm:m16=(k0:Int):=by rw[c9,zs1,wb];omega
  clear c9;have wa:A.num .add .i64 (A.num .rem .i64 n1 32) m16=(r:Int)+(k0:Int):=by rw[au hA (by omega) (by omega)];omega
  refine cR [0,1,2,3,4,5,6,7,8,9,10,11,12,13,14,15,16,17,19,18,20] (by cbv) ?_;refine cH hA 4 ?_;obtain⟨qi,c7⟩:=nm (abE a1 0 (aaO (A.num .rem .i64 n1 32)):ByteArray);have e8:(0:Int)<=(A.num .rem .i64 n1 32):=by omega
  have e3:(A.num .rem .i64 n1 32)<=(aaL a1:Int):=by omega
  have f5:(aaL qi:Int)=(A.num .rem .i64 n1 32):=by rw[c7,aa3];omega
  refine oe rfl rfl (Dk rfl rfl rfl rfl e8 e3 c7) ?_;refine cH hA 2 ?_;obtain⟨Fz,d0⟩:=nm (abE s1 0 (aaO m16):ByteArray);have e1:(0:Int)<=m16:=by omega
  have e0:m16<=(aaL s1:Int):=by omega
  have f7:(aaL Fz:Int)=m16:=by rw[d0,aa3];omega
  refine oe rfl rfl (Dk rfl rfl rfl rfl e1 e0 d0) ?_;obtain⟨vV,c4⟩:=nm (qi++Fz:ByteArray);have f4:aaL vV=aaL qi+aaL Fz:=by rw[c4];exact aaT
  have d9:aaL qi+aaL Fz<=140737488355328:=by
   omega
  refine dc rfl rfl (tP rfl rfl rfl c4 d9) ?_;refine cH hA 4 ?_;obtain⟨sx,c1⟩:=nm (abE a1 (aaO (A.num .add .i64 (A.num .rem .i64 n1 32) m16)) (aaL a1):ByteArray);have e6:(0:Int)<=(A.num .add .i64 (A.num .rem .i64 n1 32) m16):=by omega
  have f1:(A.num .add .i64 (A.num .rem .i64 n1 32) m16)<=(aaL a1:Int):=by omega
  have f6:(aaL sx:Int)=(aaL a1:Int) - (A.num .add .i64 (A.num .rem .i64 n1 32) m16):=by rw[c1,aa3];omega
  refine oe rfl rfl (Dl rfl rfl rfl rfl e6 f1 c1) ?_;obtain⟨Bw,c6⟩:=nm (vV++sx:ByteArray);have f3:aaL Bw=aaL vV+aaL sx:=by rw[c6];exact aaT
  have e7:aaL vV+aaL sx<=140737488355328:=by
   omega
  refine dc rfl rfl (tP rfl rfl rfl c6 e7) ?_;obtain⟨a5,a9,a4,a7,e2⟩:=uZ [.agg [.sl 1 (ar RS),.sl 2 (ar RC)],.ii (A.num .add .i64 sector (A.num .quo .i64 n1 32)),.str Bw] (aaN ah (a0)) (aaN aU ((ws)++[⟨(A.num .add .i64 sector (A.num .quo .i64 n1 32)),Bw⟩])) true (by subst LL LM;simp only[bS,cE];exact Bu A hA (⟨(a0),(ws)⟩:bj) (A.num .add .i64 sector (A.num .quo .i64 n1 32)) Bw Q8 Q9 Ra (by omega) Xn);have c0:=ab hA a4;have d1:=ab hA a7;refine nc e2 (.inl (by simp only[fresh,cj,a4,a7,dy,ev,and_self])) ?_;refine cH hA 5 ?_;refine cS (by cbv) ?_;refine gs (gx hA 2 ?_);refine gc (λjW=>?_) (λjW=>?_)
  ·
   exact ay jW (by subst hA;rfl)
  refine gk (gs (gr (rn hA 2 ?_)));obtain⟨IM,c2⟩:=nm (abE s1 (aaO m16) (aaL s1):ByteArray);have e5:(0:Int)<=m16:=by omega
  have e9:m16<=(aaL s1:Int):=by omega
  have f2:(aaL IM:Int)=(aaL s1:Int) - m16:=by rw[c2,aa3];omega
  refine fk rfl (Dl rfl rfl rfl rfl e5 e9 c2) ?_;refine rz hA 1 ?_;refine gB (rn hA 4 ?_);refine bY (tw:=[.drop 33,.lr 77 33,.drop 1033,.lr 1077 1033,.up 1033,.up 1018,.up 33,.up 18,.up 11,.up 10,.up 8]) (by cbv) ?_;refine⟨_,_,?_,by cbv,(i+k0),(ws++[piece a0 (aaO sector) (aaO at_) t i]),IM,(A.num .add .i64 n1 m16),a5,a9,rfl,?_,rfl⟩
  ·
   omega
  have hpc:(⟨A.num .add .i64 sector (A.num .quo .i64 n1 32),Bw⟩:br)=piece a0 (aaO sector) (aaO at_) t i:=by
   rw[c6,c4];refine LO (m:=k0) (f:=r) wK ho hr Kv ?_ ?_ ?_
   ·rw [c7,wm,abb]
   ·rw [d0,AQ,hm,abb,Xo (by omega)]
   rw[c1,wa,show aaO ((r:Int)+(k0:Int))=r+k0 by omega]
  have hW:wX a0 (aaO sector) (aaO at_) t (i+k0) (ws++[piece a0 (aaO sector) (aaO at_) t i]):=by
   have h:=IN dx (by omega) hI hlt;rw[<- (show k0=_ from Kv)] at h;exact h
  refine⟨?_,by rw[au hA (by omega) (by omega)];omega,by assumption,by rw[<- hpc];assumption,hW⟩;rw[c2,AQ,hm,abb,Xp (by rw[aa3];omega)]
 have c3:s1=(aaP #[]):=na hA cf;refine aI (gE ?_);refine gx hA 3 ?_;refine rt (gt ?_);show _=PV.aw [.agg [.ow 1 RS,.ow 2 RC],.bool true];have hp:=zero_eq c3;rw[AQ,aa3] at hp;rw[LL,LM,LP hI (by omega)];rfl
end Go.Av

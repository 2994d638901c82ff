/- Lemmas and walks for FnExactServerNew: what each function of the program and of the reference comes to. -/
import Derived.Test.YtghokbigemmaaaaGreatRp
import Derived.Test.YtghokbigemmaaaaGreatB1
import Derived.Test.YtghokbigemmaaaaGreatP1
import Derived.Test.YtghokbigemmaaaaGreatC1
import Derived.Test.YtghokbigemmaaaaGreatQ8
open List renaming length→aaK,map→aaN,length_map→aaS,take_of_length_le→aaU,length_take→aa1,take_add_one→aa6,take→aa8,drop→abi,nil_append→abv,map_append→abQ
open ByteArray renaming size→aaL,empty→aaM,mk→aaP,size_append→aaT
open Int renaming toNat→aaO
open Nat renaming zero_le→aaW
namespace Go.Av
open Go Go.Proofs
set_option maxRecDepth 100000
set_option maxHeartbeats 4000000
set_option linter.unusedVariables false
set_option linter.unusedSimpArgs false
theorem Ph (A:ax)(hA:A=aj)(x:bu)(q0 q1 q2:Int)(rq:RR)(h:False):al 295 [.agg (cA x),.rd [.ii q0,.ii q1,.ii q2,.sl 9 rq]] (.bool false):=h.elim
def S1 (p0:RR)(p1 p2 p3:Int)(p4:RR)(p5 p6:Int):St:={sl:=.sl 4 p0::.fn 295 [.rd [.ii p1,.ii p2,.ii p3,.sl 9 p4]]::ql++.ii p5::.ii p6::tk,bl:=[]}
theorem D1 (A:ax)(hA:A=aj)(xs:List bu)(hx:(aaK xs:Int)<=4611686018427387904)(q0 q1 q2:Int)(rq:RR)(hp:∀ x∈xs,False):al 237 [.sl 4 (aaN cA xs),.fn 295 [.rd [.ii q0,.ii q1,.ii q2,.sl 9 rq]]] (.ii (-1)):=by
 obtain⟨b7,c9,i2⟩:=nr hA cA xs;refine ak (az:=[.sl 4 b7,.fn 295 [.rd [.ii q0,.ii q1,.ii q2,.sl 9 rq]]]) (by subst c9;rfl) ?_;refine aY Tryz.func237 ?_;refine gx hA 1 ?_;refine gs (gx hA 3 ?_);refine af ?_;refine aF (λσ m=>∃(i:Nat) (n:Int),σ=(S1 b7 q0 q1 q2 rq (A.ao b7) n)/\(n=(i:Int)/\i<=aaK xs)/\m=aaK xs - i) _ [] [0,1,7,8] [] _ rfl (by cbv) ⟨0,0,rfl,?_,rfl⟩ (λσ m hI=>?_)
 ·
  exact⟨rfl,aaW _⟩
 obtain⟨i,n,rfl,⟨hn,hi⟩,rfl⟩:=hI;refine gx hA 1 ?_;refine gs ?_;refine gc (λc1=>?_) (λc1=>?_)
 ·
  have aV:n < (A.ao b7):=aP hA c1;refine gk (gs (af (gx hA 2 ?_)));refine gs (gr (rn hA 3 ?_));obtain⟨j7,o2,x2,cX,g2⟩:=ga xs n (by omega) (by omega);obtain⟨k6,i5,i6,f2⟩:=x2;obtain⟨g7,d8,l6⟩:=nr hA aW f2;have i8:b7[(aaO n)]? =some [.ii k6,.ii i5,.ii i6,.sl 9 g7]:=by
   subst d8;exact bC cA c9 cX
  refine ee j7 i8 ?_;refine rn hA 1 ?_;have cL:=Ph A hA (⟨k6,i5,i6,f2⟩:bu) q0 q1 q2 rq (hp _ g2);refine aH cL (.inr rfl) ?_ (hv:=by subst d8;rfl);refine od ?_;refine gc (λc5=>?_) (λc5=>?_)
  ·
   exact ay c5 (by rfl)
  refine gk (gy hA 2 ?_);refine⟨_,_,?_,by cbv,i+1,(A.num .add .i64 n 1),rfl,?_,rfl⟩
  ·
   omega
  exact⟨by rw[au hA (by omega) (by omega)];omega,by omega⟩
 have aV:(A.ao b7)<=n:=aQ hA c1;refine aI (gE ?_);refine gx hA 1 ?_;refine rt (gt ?_);show _=(PV.int .i64 (-1));rfl
theorem FC (A:ax)(hA:A=aj)(xs:List bu)(hx:(aaK xs:Int)<=4611686018427387904)(q0 q1 q2:Int)(rq:RR)(hp:∀ x∈xs,False):al 175 [.sl 4 (aaN cA xs),.fn 295 [.rd [.ii q0,.ii q1,.ii q2,.sl 9 rq]]] (.bool false):=by
 obtain⟨b7,c9,i2⟩:=nr hA cA xs;refine ak (az:=[.sl 4 b7,.fn 295 [.rd [.ii q0,.ii q1,.ii q2,.sl 9 rq]]]) (by subst c9;rfl) ?_;refine aY Tryz.func175 ?_;refine gx hA 1 ?_;refine gs (gr (rn hA 2 ?_));obtain⟨i9,g8,aJ⟩:=tb (D1 A hA xs hx q0 q1 q2 rq hp);refine aH aJ (.inr rfl) ?_ (hv:=by subst c9;rfl);refine rz hA 2 ?_;refine rt (gt ?_);show _=(PV.bool (A.cmp .geq i9 0));rw[g8];subst hA;rfl
theorem Pj (A:ax)(hA:A=aj)(x:ae)(rs rc ru:RR)(q2 q4 q5 q6 q7:Int)(h1:x.Seq < q5)(h2:x.Rec.Valid < q7):al 296 [.agg (aW x),.rd [.sl 1 rs,.sl 2 rc,.ii q2,.sl 4 ru,.ii q4,.ii q5,.ii q6,.ii q7]] (.bool false):=by
 obtain⟨e8,⟨i1,d1,i4,g4,g0,g1,g9,g6⟩⟩:=x;refine ak (az:=[.agg [.ii e8,.ii i1,.ii d1,.ii i4,.ii g4,.ii g0,.str g1,.str g9,.str g6],.rd [.sl 1 rs,.sl 2 rc,.ii q2,.sl 4 ru,.ii q4,.ii q5,.ii q6,.ii q7]]) (by rfl) ?_;refine aY Tryz.func296 ?_;have h1:e8 < q5:=h1;have h2:d1 < q7:=h2;refine gx hA 2 ?_;refine gs (gr (rn hA 6 ?_));refine ag 9 rfl (λc1=>?_) (λc1=>?_)
 ·
  have aV:q5<=e8:=qy hA c1;exfalso;omega
 have aV:e8 < q5:=qz hA c1;refine rz hA 8 ?_;refine rt (gt ?_);show _=(PV.bool (A.cmp .geq d1 q7));refine congrArg PV.bool ?_;subst hA;simp[aj];omega
def S3 (p0 p1 p2:RR)(p3:Int)(p4:RR)(p5 p6 p7 p8 p9 fj:Int):St:={sl:=.sl 9 p0::.fn 296 [.rd [.sl 1 p1,.sl 2 p2,.ii p3,.sl 4 p4,.ii p5,.ii p6,.ii p7,.ii p8]]::ql++.ii p9::.ii fj::tk,bl:=[]}
theorem D2 (A:ax)(hA:A=aj)(xs:List ae)(hx:(aaK xs:Int)<=4611686018427387904)(rs rc ru:RR)(q2 q4 q5 q6 q7:Int)(hp:∀ x∈xs,x.Seq < q5/\x.Rec.Valid < q7):al 244 [.sl 9 (aaN aW xs),.fn 296 [.rd [.sl 1 rs,.sl 2 rc,.ii q2,.sl 4 ru,.ii q4,.ii q5,.ii q6,.ii q7]]] (.ii (-1)):=by
 obtain⟨b7,c9,i2⟩:=nr hA aW xs;refine ak (az:=[.sl 9 b7,.fn 296 [.rd [.sl 1 rs,.sl 2 rc,.ii q2,.sl 4 ru,.ii q4,.ii q5,.ii q6,.ii q7]]]) (by subst c9;rfl) ?_;refine aY Tryz.func244 ?_;refine gx hA 1 ?_;refine gs (gx hA 3 ?_);refine af ?_;refine aF (λσ m=>∃(i:Nat) (n:Int),σ=(S3 b7 rs rc q2 ru q4 q5 q6 q7 (A.ao b7) n)/\(n=(i:Int)/\i<=aaK xs)/\m=aaK xs - i) _ [] [0,1,7,8] [] _ rfl (by cbv) ⟨0,0,rfl,?_,rfl⟩ (λσ m hI=>?_)
 ·
  exact⟨rfl,aaW _⟩
 obtain⟨i,n,rfl,⟨hn,hi⟩,rfl⟩:=hI;refine gx hA 1 ?_;refine gs ?_;refine gc (λc1=>?_) (λc1=>?_)
 ·
  have aV:n < (A.ao b7):=aP hA c1;refine gk (gs (af (gx hA 2 ?_)));refine gs (gr (rn hA 3 ?_));obtain⟨j7,o2,x2,cX,g2⟩:=ga xs n (by omega) (by omega);obtain⟨i7,⟨d7,d3,e3,e1,d2,e0,e2,d9⟩⟩:=x2;have i8:b7[(aaO n)]? =some [.ii i7,.ii d7,.ii d3,.ii e3,.ii e1,.ii d2,.str e0,.str e2,.str d9]:=by
   exact bC aW c9 cX
  refine ee j7 i8 ?_;refine rn hA 1 ?_;have cL:=Pj A hA (⟨i7,⟨d7,d3,e3,e1,d2,e0,e2,d9⟩⟩:ae) rs rc ru q2 q4 q5 q6 q7 (hp _ g2).1 (hp _ g2).2;refine aH cL (.inr rfl) ?_;refine od ?_;refine gc (λc5=>?_) (λc5=>?_)
  ·
   exact ay c5 (by rfl)
  refine gk (gy hA 2 ?_);refine⟨_,_,?_,by cbv,i+1,(A.num .add .i64 n 1),rfl,?_,rfl⟩
  ·
   omega
  exact⟨by rw[au hA (by omega) (by omega)];omega,by omega⟩
 have aV:(A.ao b7)<=n:=aQ hA c1;refine aI (gE ?_);refine gx hA 1 ?_;refine rt (gt ?_);show _=(PV.int .i64 (-1));rfl
theorem FD (A:ax)(hA:A=aj)(xs:List ae)(hx:(aaK xs:Int)<=4611686018427387904)(rs rc ru:RR)(q2 q4 q5 q6 q7:Int)(hp:∀ x∈xs,x.Seq < q5/\x.Rec.Valid < q7):al 192 [.sl 9 (aaN aW xs),.fn 296 [.rd [.sl 1 rs,.sl 2 rc,.ii q2,.sl 4 ru,.ii q4,.ii q5,.ii q6,.ii q7]]] (.bool false):=by
 obtain⟨b7,c9,i2⟩:=nr hA aW xs;refine ak (az:=[.sl 9 b7,.fn 296 [.rd [.sl 1 rs,.sl 2 rc,.ii q2,.sl 4 ru,.ii q4,.ii q5,.ii q6,.ii q7]]]) (by subst c9;rfl) ?_;refine aY Tryz.func192 ?_;refine gx hA 1 ?_;refine gs (gr (rn hA 2 ?_));obtain⟨i9,g8,aJ⟩:=tb (D2 A hA xs hx rs rc ru q2 q4 q5 q6 q7 hp);refine aH aJ (.inr rfl) ?_ (hv:=by subst c9;rfl);refine rz hA 2 ?_;refine rt (gt ?_);show _=(PV.bool (A.cmp .geq i9 0));rw[g8];subst hA;rfl
def X6 (p0:RR)(p1 p2:Int)(p3 p4:RR)(p5 p6 p7 p8 p9:Int):St:={sl:=.aa::.pt 1 0 0::YK++.sl 4 p0::.ii p1::.ii p2::NP,bl:=[(1,⟨.var,8,[[.sl 1 p3,.sl 2 p4,.ii p5,.sl 4 p0,.ii p6,.ii p7,.ii p8,.ii p9]]⟩)]}
theorem LV (A:ax)(hA:A=aj)(x:bF)(N:Int)(L:List aT)(h:gV A x N L):al 252 [.agg (mT x)] (.bool true):=by
 obtain⟨⟨a4,a6⟩,b0,a9,a3,a7,b3,a1⟩:=x;obtain⟨a2,a8,d6⟩:=nr hA ah a4;obtain⟨a0,b1,e4⟩:=nr hA bn a6;obtain⟨a5,b9,i3⟩:=nr hA cA a9;refine ak (az:=[.agg [.sl 1 a2,.sl 2 a0,.ii b0,.sl 4 a5,.ii a3,.ii a7,.ii b3,.ii a1]]) (by subst a8 b1 b9;rfl) ?_;have hlog:=h;obtain⟨n5,jq,gd,l3,dk,ca,ln,sg,us,lng,lns,lsp,lnv,tx⟩:=h;have oE:eM ⟨a4,a6⟩:=dk;have ca:a6=[]:=ca;have ln:(aaK a4:Int)=8+N * 8:=ln;have sg:b0=N:=sg;have us:a9=[fB L]:=us;have lng:a3=2:=lng;have lns:a7=(aaK L:Int)+1:=lns;have lsp:b3=1:=lsp;have lnv:a1=(aaK L:Int)+1:=lnv;have uT:aaK a9=1:=by rw[us];rfl
 have lca:aaK a6=0:=by rw[ca];rfl
 have hil:=hlog.len;have hzl:=hlog.zs;have hit:bm a9=bx L:=hlog.items;have hib:aaK (bx L)=aaK L:=aaS ..;have hend:=hlog.end_;have hilx:(bm a9).length<=1048576:=hil;refine aY Tryz.func252 ?_;refine gx hA 2 ?_;refine gs (gs ?_);refine cz [0,1,2,3,4,5,6,7,8,9,10,11,12,13,14,15,16,17,18,19,20,21,22,23,24,25,26,27,28,29,30,31,32] (by cbv) ?_;refine bL hA 2 ?_;have aJ:=nj A hA (⟨a4,a6⟩:bj) oE;refine eQ aJ (.inr rfl) ?_ (hv:=by subst a8 b1;rfl);refine bL hA 2 ?_;refine bV 9 rfl (λc3=>?_) (λc3=>?_)
 ·
  exact ay c3 (by subst hA;rfl)
 refine bL hA 7 ?_;refine bV 16 rfl (λc4=>?_) (λc4=>?_)
 ·
  have du:(A.ao a0)≠0:=gp hA c4;exfalso;omega
 have du:(A.ao a0)=0:=gq hA c4;refine bL hA 5 ?_;refine bV 21 rfl (λc5=>?_) (λc5=>?_)
 ·
  have fu:b0=0:=eE hA c5;exfalso;omega
 have fu:b0≠0:=eF hA c5;refine bL hA 4 ?_;have fq:=Jl A hA (⟨a4,a6⟩:bj) N n5 jq ln;refine fE rfl rfl rfl rfl (by cbv) (by subst a8 b1;rfl) fq (.inr rfl) ?_;refine bL hA 3 ?_;refine bV 29 rfl (λc8=>?_) (λc8=>?_)
 ·
  have gz:b0≠N:=gp hA c8;exfalso;omega
 have gz:b0=N:=gq hA c8;refine bL hA 5 ?_;have k0:=gO A hA (A.ao a5) 1 b0 (by omega) (by omega);refine fE rfl rfl rfl rfl (by cbv) (by cbv) k0 (.inr rfl) ?_;refine dz hA 2 ?_;refine gc (λcf=>?_) (λcf=>?_)
 ·
  exact ay cf (by subst hA;rfl)
 refine gk (gs (gs (gr (rn hA 2 ?_))));have j9:=gO A hA a3 1 1000000000 (by omega) (by omega);refine aH j9 (.inr rfl) ?_;refine rn hA 2 ?_;refine ag 42 rfl (λdF=>?_) (λdF=>?_)
 ·
  exact ay dF (by subst hA;rfl)
 refine rn hA 2 ?_;have j4:=gO A hA a7 1 1000000000 (by omega) (by omega);refine fC j4 (.inr rfl) ?_;refine rn hA 3 ?_;refine ag 48 rfl (λgG=>?_) (λgG=>?_)
 ·
  exact ay gG (by subst hA;rfl)
 refine rn hA 2 ?_;have k1:=gO A hA a1 1 1000000000 (by omega) (by omega);refine fC k1 (.inr rfl) ?_;refine rn hA 3 ?_;refine ag 54 rfl (λjw=>?_) (λjw=>?_)
 ·
  exact ay jw (by subst hA;rfl)
 refine rn hA 2 ?_;have j0:=gO A hA b3 1 1000000000 (by omega) (by omega);refine fC j0 (.inr rfl) ?_;refine rz hA 2 ?_;refine gc (λjR=>?_) (λjR=>?_)
 ·
  exact ay jR (by subst hA;rfl)
 refine gk (gs (gx hA 4 ?_));refine af ?_;refine aF (λσ m=>∃(i:Nat) (n:Int),σ=(X6 a5 (A.ao a5) n a2 a0 b0 a3 a7 b3 a1)/\(n=(i:Int)/\i<=aaK a9)/\m=aaK a9 - i) _ [] [1,61,62,63] [1] _ rfl (by cbv) ⟨0,0,rfl,?_,rfl⟩ (λσ m hI=>?_)
 ·
  exact⟨rfl,aaW _⟩
 obtain⟨i,n,rfl,⟨hn,hi⟩,rfl⟩:=hI;refine gx hA 1 ?_;refine gs ?_;refine gc (λjW=>?_) (λjW=>?_)
 ·
  have j6:n < (A.ao a5):=aP hA jW;refine gk (gs (af (gs (gr (rn hA 1 ?_)))));obtain⟨g3,m2,X7,f0,m3⟩:=ga a9 n (by omega) (by omega);obtain⟨b5,b2,b6,b4⟩:=X7;obtain⟨b8,c0,f4⟩:=nr hA aW b4;have i0:a5[(aaO n)]? =some [.ii b5,.ii b2,.ii b6,.sl 9 b8]:=by
   subst c0;exact bC cA b9 f0
  obtain⟨c7,l7⟩:=yR us f0;have l9:b5=0:=congrArg bu.No c7;have m1:b2=1:=congrArg bu.jy c7;have m0:b6=(eg L:Int):=congrArg bu.End c7;have e7:b4=bx L:=congrArg bu.ka c7;have k9:aaK b4<=1048576:=by rw[e7];omega
  refine ee g3 i0 ?_;refine rz hA 4 ?_;refine gs (gs ?_);refine cz [0,1,2,3,4,5,6,7,8,9,10,11,12,13,14,15,16,17,18,19,20,21,22,23,24,25,26,27,28,29,30,31,32,33,34,35,36] (by cbv) ?_;refine bL hA 5 ?_;have k2:=gO A hA b5 0 (A.num .sub .i64 b0 1) (by omega) (by rw[dE hA (by omega) (by omega)];omega);refine eQ k2 (.inr rfl) ?_;refine bL hA 2 ?_;refine bV 75 rfl (λrj=>?_) (λrj=>?_)
  ·
   exact ay rj (by subst hA;rfl)
  refine bL hA 7 ?_;refine bV 82 rfl (λAV=>?_) (λAV=>?_)
  ·
   have j3:a3<=b2:=qy hA AV;exfalso;omega
  have j3:b2 < a3:=qz hA AV;refine bL hA 3 ?_;refine bV 85 rfl (λsX=>?_) (λsX=>?_)
  ·
   have j1:0 < n:=dJ hA sX;exfalso;omega
  have j1:n<=0:=dL hA sX;refine bL hA 16 ?_;have m7:=Jn A hA (⟨a4,a6⟩:bj) (⟨b5,b2,b6,b4⟩:bu) oE ca (by rw[c7];exact hlog.aaz hA);refine fE rfl rfl rfl rfl (by cbv) (by subst a8 b1 c0;rfl) m7 (.inr rfl) ?_;refine dz hA 2 ?_;refine gc (λzE=>?_) (λzE=>?_)
  ·
   exact ay zE (by subst hA;rfl)
  refine gk (gs (gs (gr (rn hA 3 ?_))));obtain⟨u34,l4⟩:=nm ((abi (aaO 0) a5).take (aaO n - aaO 0):RR);have l5:u34=aaN cA (aa8 (aaO n) a9):=by rw[l4,b9];exact(List.map_take ..).symm
  have o8:=ab hA l5;refine bO rfl rfl (AJ rfl rfl rfl rfl rfl rfl (by decide) (by omega) (by rw[b9,aaS];omega) rfl l4) ?_;refine rn hA 1 ?_;have m8:al 175 [.sl 4 u34,.fn 295 [.rd [.ii b5,.ii b2,.ii b6,.sl 9 b8]]] (.bool false):=by subst l5;exact FC A hA (aa8 (aaO n) a9) (by rw[show aaO n=0 by omega];exact(by decide:((0:Nat):Int)<=4611686018427387904)) _ _ _ _ (λx hx=>by rw[show aaO n=0 by omega,List.take_zero] at hx;cases hx)
  refine aH m8 (.inl trivial) ?_;refine od ?_;refine gc (λuK=>?_) (λuK=>?_)
  ·
   exact ay uK (by rfl)
  refine gk (gs (gr (rn hA 3 ?_)));have j5:al 192 [.sl 9 b8,.fn 296 [.rd [.sl 1 a2,.sl 2 a0,.ii b0,.sl 4 a5,.ii a3,.ii a7,.ii b3,.ii a1]]] (.bool false):=by subst c0;exact FD A hA b4 (by omega) _ _ _ _ _ _ _ _ (λy hy=>by rw[lns,lnv];exact DN gd y (by rw[<- e7];exact hy))
  refine aH j5 (.inl trivial) ?_;refine od ?_;refine gc (λvM=>?_) (λvM=>?_)
  ·
   exact ay vM (by rfl)
  refine gk (gy hA 2 ?_);refine⟨_,_,?_,by cbv,i+1,(A.num .add .i64 n 1),rfl,?_,rfl⟩
  ·
   omega
  exact⟨by rw[au hA (by omega) (by omega)];omega,by omega⟩
 have j6:(A.ao a5)<=n:=aQ hA jW;refine aI (gE ?_);refine gs (gr (rn hA 1 ?_));obtain⟨l1,f5,o0⟩:=qL (aaN da (bm a9)) (rK A hA (⟨⟨a4,a6⟩,b0,a9,a3,a7,b3,a1⟩:bF) hzl hil);have n0:=ab hA f5;refine aH o0 (.inr rfl) ?_ (hv:=by subst a8 b1 b9;rfl);obtain⟨e5,j2,n1⟩:∃(e5:Bool),e5=(dY (bm a9))/\al 119 [.sl 9 (ar l1)] (.bool e5):=⟨_,rfl,by subst f5;simp only[kj];exact rI A hA (bm a9) (by rw[hit];exact SM (sv gd))⟩;refine aH n1 (.inl trivial) ?_;refine rz hA 1 ?_;refine rt (gt ?_);refine congrArg PV.bool ?_;rw[j2,hit];exact(tK gd).symm
def X8 (p0:Int)(p1 p2:RR)(p3:Int)(p4:RR)(p5 p6 p7 p8:Int):St:={sl:=.aa::.pt 1 0 0::.aa::.ii p0::Vw,bl:=[(1,⟨.var,8,[[.sl 1 p1,.sl 2 p2,.ii p3,.sl 4 p4,.ii p5,.ii p6,.ii p7,.ii p8]]⟩)]}
def X9 (p0 p1 p2:Int)(p3:Bool)(p4:Int)(p5 p6 p7:Bool)(p8 p9:Int)(fj fc ku ou:RR)(qP so:Bool)(Bd:Int)(Ll:RR)(p18 p19 p20:Int):St:={sl:=.aa::.pt 1 0 0::.aa::.ii p0::.pt 4 0 0::.ii p1::NQ++.pt 4 0 1::.ii p2::.bool p3::.aa::.aa::.pt 4 0 1::.ii p2::.pt 1 0 4::.ii p4::.bool p5::.aa::.aa::.ii p0::.bool p6::.bool p7::.aw []::.aw []::.aw []::.aw []::.aw []::.aw []::.aw []::.aw []::.aw []::.aw []::.bool p7::.aa::.aa::.agg [.ii p8,.ii p2,.ii p9,.sl 9 fj]::.pt 1 0 0::.agg [.sl 1 fc,.sl 2 ku]::.pt 4 0 0::.ii p8::.agg [.ii p8,.ii p2,.ii p9,.sl 9 ou]::.bool qP::.bool so::NO,bl:=[(4,⟨.var,4,[[.ii p8,.ii p2,.ii p9,.sl 9 fj]]⟩),(1,⟨.var,8,[[.sl 1 fc,.sl 2 ku,.ii Bd,.sl 4 Ll,.ii p4,.ii p18,.ii p19,.ii p20]]⟩)]}
def Ya (p0:RR)(p1:Int)(p2 p3:RR)(p4:Int)(p5:RR)(p6 p7 p8 p9:Int):St:={sl:=.aa::.pt 1 0 0::iB++.sl 9 p0::.ii p1::Vv,bl:=[(1,⟨.var,8,[[.sl 1 p2,.sl 2 p3,.ii p4,.sl 4 p5,.ii p6,.ii p7,.ii p8,.ii p9]]⟩)]}
theorem BB (A:ax)(hA:A=aj)(x:bF)(N:Int)(L:List aT)(h:gV A x N L):al 106 [.agg (mT x)] (.bool true):=by
 obtain⟨⟨a4,a6⟩,b0,a9,a3,a7,b3,a1⟩:=x;obtain⟨a2,a8,d6⟩:=nr hA ah a4;obtain⟨a0,b1,e4⟩:=nr hA bn a6;obtain⟨a5,b9,i3⟩:=nr hA cA a9;refine ak (az:=[.agg [.sl 1 a2,.sl 2 a0,.ii b0,.sl 4 a5,.ii a3,.ii a7,.ii b3,.ii a1]]) (by subst a8 b1 b9;rfl) ?_;have hlog:=h;obtain⟨n5,jq,gd,l3,dk,ca,ln,sg,us,lng,lns,lsp,lnv,tx⟩:=h;have oE:eM ⟨a4,a6⟩:=dk;have ca:a6=[]:=ca;have ln:(aaK a4:Int)=8+N * 8:=ln;have sg:b0=N:=sg;have us:a9=[fB L]:=us;have lng:a3=2:=lng;have lns:a7=(aaK L:Int)+1:=lns;have lsp:b3=1:=lsp;have lnv:a1=(aaK L:Int)+1:=lnv;have uT:aaK a9=1:=by rw[us];rfl
 have lca:aaK a6=0:=by rw[ca];rfl
 have hil:=hlog.len;have hzl:=hlog.zs;have hit:bm a9=bx L:=hlog.items;have hib:aaK (bx L)=aaK L:=aaS ..;have hend:=hlog.end_;have hilx:(bm a9).length<=1048576:=hil;refine aY Tryz.func106 ?_;refine gx hA 2 ?_;refine gs (gs ?_);refine cz [0,1,2,3,4,5,6,7,8,9,10,11,12,13,14,15,16,17,18,19,20,21,22,23,24,25,26,27,28,29,30,31,32] (by cbv) ?_;refine bL hA 2 ?_;have aJ:=nk A hA (⟨a4,a6⟩:bj) oE;refine eQ aJ (.inr rfl) ?_ (hv:=by subst a8 b1;rfl);refine bL hA 2 ?_;refine bV 12 rfl (λc3=>?_) (λc3=>?_)
 ·
  exact ay c3 (by subst hA;rfl)
 refine bL hA 7 ?_;refine bV 19 rfl (λc4=>?_) (λc4=>?_)
 ·
  have du:0 < (A.ao a0):=dJ hA c4;exfalso;omega
 have du:(A.ao a0)<=0:=dL hA c4;refine bL hA 5 ?_;refine bV 24 rfl (λc5=>?_) (λc5=>?_)
 ·
  have fu:b0=0:=eE hA c5;exfalso;omega
 have fu:b0≠0:=eF hA c5;refine bL hA 4 ?_;have fq:=Jm A hA (⟨a4,a6⟩:bj) N n5 jq ln;refine fE rfl rfl rfl rfl (by cbv) (by subst a8 b1;rfl) fq (.inr rfl) ?_;refine bL hA 3 ?_;refine bV 32 rfl (λc8=>?_) (λc8=>?_)
 ·
  have gz:b0≠N:=gp hA c8;exfalso;omega
 have gz:b0=N:=gq hA c8;refine bL hA 5 ?_;have k0:=ff A hA (A.ao a5) 1 b0 (by omega) (by omega);refine fE rfl rfl rfl rfl (by cbv) (by cbv) k0 (.inr rfl) ?_;refine dz hA 2 ?_;refine gc (λcf=>?_) (λcf=>?_)
 ·
  exact ay cf (by subst hA;rfl)
 refine gk (gs (gs (gr (rn hA 2 ?_))));have j9:=ff A hA a3 1 1000000000 (by omega) (by omega);refine aH j9 (.inr rfl) ?_;refine rn hA 2 ?_;refine ag 45 rfl (λdF=>?_) (λdF=>?_)
 ·
  exact ay dF (by subst hA;rfl)
 refine rn hA 2 ?_;have j4:=ff A hA a7 1 1000000000 (by omega) (by omega);refine fC j4 (.inr rfl) ?_;refine rn hA 3 ?_;refine ag 51 rfl (λgG=>?_) (λgG=>?_)
 ·
  exact ay gG (by subst hA;rfl)
 refine rn hA 2 ?_;have k1:=ff A hA a1 1 1000000000 (by omega) (by omega);refine fC k1 (.inr rfl) ?_;refine rn hA 3 ?_;refine ag 57 rfl (λjw=>?_) (λjw=>?_)
 ·
  exact ay jw (by subst hA;rfl)
 refine rn hA 2 ?_;have j0:=ff A hA b3 1 1000000000 (by omega) (by omega);refine fC j0 (.inr rfl) ?_;refine rz hA 2 ?_;refine gc (λjR=>?_) (λjR=>?_)
 ·
  exact ay jR (by subst hA;rfl)
 refine gk (gs (gx hA 1 ?_));refine af ?_;refine aF (λσ m=>∃(i:Nat) (n:Int),σ=(X8 n a2 a0 b0 a5 a3 a7 b3 a1)/\(n=(i:Int)/\i<=aaK a9)/\m=aaK a9 - i) _ [] [1,3] [1] _ rfl (by cbv) ⟨0,0,rfl,?_,rfl⟩ (λσ m hI=>?_)
 ·
  exact⟨rfl,aaW _⟩
 obtain⟨i,n,rfl,⟨hn,hi⟩,rfl⟩:=hI;refine gs (gx hA 5 ?_);refine gc (λjW=>?_) (λjW=>?_)
 ·
  have j6:n < (A.ao a5):=aP hA jW;refine gk (gs (af (gs (gr (rn hA 3 ?_)))));obtain⟨g3,m2,X7,f0,m3⟩:=ga a9 n (by omega) (by omega);obtain⟨b5,b2,b6,b4⟩:=X7;obtain⟨b8,c0,f4⟩:=nr hA aW b4;have i0:a5[(aaO n)]? =some [.ii b5,.ii b2,.ii b6,.sl 9 b8]:=by
   subst c0;exact bC cA b9 f0
  obtain⟨c7,l7⟩:=yR us f0;have l9:b5=0:=congrArg bu.No c7;have m1:b2=1:=congrArg bu.jy c7;have m0:b6=(eg L:Int):=congrArg bu.End c7;have e7:b4=bx L:=congrArg bu.ka c7;have k9:aaK b4<=1048576:=by rw[e7];omega
  refine ee g3 i0 ?_;refine rz hA 3 ?_;refine gs (gs ?_);refine cz [0,1,2,3,4,5,6,7,8,9,10,11,12,13,14,15,16,17,18,19,20,21,22,23,24,25,26,27,28,29,30,31,32,33,34,35,36,37,38,39,40,41,42,43,44] (by cbv) ?_;refine bL hA 5 ?_;have k2:=ff A hA b5 0 (A.num .sub .i64 b0 1) (by omega) (by rw[dE hA (by omega) (by omega)];omega);refine eQ k2 (.inr rfl) ?_;refine bL hA 2 ?_;refine bV 82 rfl (λrj=>?_) (λrj=>?_)
  ·
   exact ay rj (by subst hA;rfl)
  refine bL hA 5 ?_;refine bV 87 rfl (λAV=>?_) (λAV=>?_)
  ·
   have j3:b2=0:=eE hA AV;exfalso;omega
  have j3:b2≠0:=eF hA AV;refine bL hA 7 ?_;refine bV 94 rfl (λsX=>?_) (λsX=>?_)
  ·
   have j1:a3<=b2:=qy hA sX;exfalso;omega
  have j1:b2 < a3:=qz hA sX;refine bL hA 3 ?_;refine bV 97 rfl (λoo=>?_) (λoo=>?_)
  ·
   have n9:0 < n:=dJ hA oo;exfalso;omega
  have n9:n<=0:=dL hA oo;refine bL hA 18 ?_;obtain⟨c2,d0,n6⟩:=ZJ (aaN da b4) b5 b2 b6 (Jo A hA (⟨a4,a6⟩:bj) b5 oE ca (⟨b5,b2,b6,b4⟩:bu) (by rw[c7];exact hlog.aaA hA) rfl);have l0:=ab hA d0;have k7:A.ao (ar c2)=(aaK b4:Int):=ab hA (by rw[d0];exact kj _);refine fE rfl rfl rfl rfl (by cbv) (by subst a8 b1;rfl) n6 (.inr rfl) ?_;have o1:al 167 [.agg [.ii b5,.ii b2,.ii b6,.sl 9 b8],.agg [.ii b5,.ii b2,.ii b6,.sl 9 (ar c2)]] (.bool true):=by subst c0 d0;simp only[kj];exact Hd A hA (⟨b5,b2,b6,b4⟩:bu) k9
  refine fE rfl rfl rfl rfl (by cbv) (by cbv) o1 (.inr rfl) ?_;refine dz hA 2 ?_;refine gc (λqS=>?_) (λqS=>?_)
  ·
   exact ay qS (by subst hA;rfl)
  refine gk (gx hA 1 ?_);refine af ?_;refine aF (λσ m=>∃(n2:Int),σ=(X9 n n2 b2 (A.cmp .eql b2 0) a3 (A.cmp .geq b2 a3) (A.cmp .gtr n 0) false b5 b6 b8 a2 a0 (ar c2) true (A.eB true) b0 a5 a7 b3 a1)/\(n2=0)/\m=0) _ [] [1,3,4,5,83,84,85,88,89,90,91,92,95,96,97,98,99,100,101,102,103,104,105,106,107,108,111,112,113,114,115,116,117,118] [4,1] _ rfl (by cbv) ⟨0,rfl,?_,rfl⟩ (λσ m hI=>?_)
  ·
   exact rfl
  obtain⟨n2,rfl,nG,rfl⟩:=hI;refine gs (gx hA 3 ?_);refine gc (λuK=>?_) (λuK=>?_)
  ·
   have m6:n2 < n:=aP hA uK;exfalso;omega
  have m6:n<=n2:=aQ hA uK;refine aI (gE ?_);refine gy hA 3 ?_;refine⟨_,_,?_,by cbv,i+1,(A.num .add .i64 n 1),rfl,?_,rfl⟩
  ·
   omega
  exact⟨by rw[au hA (by omega) (by omega)];omega,by omega⟩
 have j6:(A.ao a5)<=n:=aQ hA jW;refine aI (gE ?_);refine gs (gr (rn hA 1 ?_));obtain⟨l2,f6,j5⟩:=qL (aaN da (bm a9)) (rL A hA (⟨⟨a4,a6⟩,b0,a9,a3,a7,b3,a1⟩:bF) hzl hil);have n7:=ab hA f6;obtain⟨d4,k3⟩:=nm (ar l2:RR);have g5:d4=aaN aW (bm a9):=by rw[k3,f6];exact kj _
 have o6:=ab hA g5;refine lL (r':=.sl 9 d4) rfl rfl (by cbv) (by subst a8 b1 b9;rfl) j5 (.inr rfl) (by subst k3;rfl) ?_;refine rz hA 1 ?_;refine gs (gx hA 1 ?_);refine af ?_;refine aF (λσ m=>∃(k:Nat) (n3:Int),σ=(Ya d4 n3 a2 a0 b0 a5 a3 a7 b3 a1)/\(n3=(k:Int)/\k<=aaK (bm a9))/\m=aaK (bm a9) - k) _ [] [1,6,7] [1] _ rfl (by cbv) ⟨0,0,rfl,?_,rfl⟩ (λσ m hI=>?_)
 ·
  exact⟨rfl,aaW _⟩
 obtain⟨k,n3,rfl,⟨hk,hkl⟩,rfl⟩:=hI;refine gs (gx hA 4 ?_);refine gc (λrr=>?_) (λrr=>?_)
 ·
  have m9:n3 < (A.ao d4):=aP hA rr;refine gk (gs (af (gs ?_)));refine cz [0,1,2,3,4,5,6,7,8,9,10,11,12,13,14,15,16,17,18] (by cbv) ?_;refine bL hA 2 ?_;obtain⟨k4,o7,x42,m5,l8⟩:=ga (bm a9) n3 (by omega) (by omega);obtain⟨d5,⟨f7,c6,f9,f8,e6,f3,e9,f1⟩⟩:=x42;have k8:d4[(aaO n3)]? =some [.ii d5,.ii f7,.ii c6,.ii f9,.ii f8,.ii e6,.str f3,.str e9,.str f1]:=by
   exact bC aW g5 m5
  have k5:=DN gd _ (by rw[<- hit];exact l8);have o4:d5 < (aaK L:Int)+1:=k5.1;have o5:c6 < (aaK L:Int)+1:=k5.2;refine ob k4 k8 ?_;refine bL hA 6 ?_;refine bV 150 rfl (λM8=>?_) (λM8=>?_)
  ·
   have m4:a7<=d5:=qy hA M8;exfalso;omega
  have m4:d5 < a7:=qz hA M8;refine bL hA 2 ?_;refine lD rfl rfl rfl rfl rfl (jO rfl rfl rfl rfl rfl k4 rfl k8) ?_;refine dz hA 7 ?_;refine gc (λuL=>?_) (λuL=>?_)
  ·
   have n4:a1<=c6:=qy hA uL;exfalso;omega
  have n4:c6 < a1:=qz hA uL;refine gk (gy hA 3 ?_);refine⟨_,_,?_,by cbv,k+1,(A.num .add .i64 n3 1),rfl,?_,rfl⟩
  ·
   omega
  exact⟨by rw[au hA (by omega) (by omega)];omega,by omega⟩
 have m9:(A.ao d4)<=n3:=aQ hA rr;refine aI (gE ?_);refine gs (gr (rn hA 1 ?_));obtain⟨o3,j8,n8⟩:=ib (xD A hA (bm a9) (by rw[hit];exact SM (sv gd)));refine aH n8 (.inr rfl) ?_ (hv:=by subst g5;rfl);refine rz hA 1 ?_;refine rt (gt ?_);refine congrArg PV.bool ?_;rw[j8,hit];exact(tK gd).symm
def ZM (p0:RR)(p1 p2 p3 p4 p5 p6 p7:Int)(p8:RR):St:={sl:=.aa::.aa::.pt 2 0 0::.pt 3 0 0::xZ++.sl 4 p0::.ii p1::.ii p2::vg,bl:=[(2,⟨.var,5,[[.ii p3,.ii p3,.ii p3,.ii p3,.zc]]⟩),(3,⟨.var,5,[[.ii p4,.ii p5,.ii p6,.ii p7,.own 7003]]⟩),(7003,⟨.arr,2,p8⟩)]}
theorem He (A:ax)(hA:A=aj)(x:bF)(h1:0<=x.fv)(h2:x.fv<=1000000000)(hu:x.Used.length<=1048576):al 63 [.agg (mT x)] (.agg (Nw ⟨x.fv+1,x.dZ,x.ea,x.cT,aaN wV x.Used⟩)):=by
 obtain⟨⟨b9,d1⟩,d4,a7,b2,b1,a5,a8⟩:=x;obtain⟨a9,b7,d9⟩:=nr hA ah b9;obtain⟨b3,b8,e1⟩:=nr hA bn d1;obtain⟨a6,c0,e6⟩:=nr hA cA a7;refine ak (az:=[.agg [.sl 1 a9,.sl 2 b3,.ii d4,.sl 4 a6,.ii b2,.ii b1,.ii a5,.ii a8]]) (by subst b7 b8 c0;rfl) ?_;have h1:0<=a5:=h1;have h2:a5<=1000000000:=h2;have hu:aaK a7<=1048576:=hu;have wst:A.num .add .i64 a5 1=a5+1:=by rw[au hA (by omega) (by omega)]
 refine aY Tryz.func63 ?_;refine gx hA 2 ?_;refine gx hA 12 ?_;refine gs (gx hA 4 ?_);refine af ?_;refine aF (λσ m=>∃(i:Nat) (n:Int) (R:RR),σ=(ZM a6 (A.ao a6) n 0 (A.num .add .i64 a5 1) b2 b1 a8 R)/\(n=(i:Int)/\i<=aaK a7/\R=aaN pD (aaN wV (aa8 i a7)))/\m=aaK a7 - i) _ [.cell 3 4 7003 2,.up 7003,.up 3,.up 2,.up 1] [2,3,17,18,19] [2,3,7003] _ rfl (by cbv) ⟨0,0,[],rfl,?_,rfl⟩ (λσ m hI=>?_)
 ·
  exact⟨rfl,aaW _,rfl⟩
 obtain⟨i,n,R,rfl,⟨hn,hi,hR⟩,rfl⟩:=hI;refine gx hA 1 ?_;refine gs ?_;refine gc (λc1=>?_) (λc1=>?_)
 ·
  have aV:n < (A.ao a6):=aP hA c1;refine gk (gs (af (gs (gr ?_))));obtain⟨e4,f6,x2,cX,e8⟩:=ga a7 n (by omega) (by omega);obtain⟨b5,b4,d7,d0⟩:=x2;obtain⟨d5,d2,e5⟩:=nr hA aW d0;have e3:a6[(aaO n)]? =some [.ii b5,.ii b4,.ii d7,.sl 9 d5]:=by
   subst d2;exact bC cA c0 cX
  have d6:=cX;rw[hn] at d6;have d6:(a7)[i]? =some (⟨b5,b4,d7,d0⟩:bu):=d6;refine ee e4 e3 ?_;refine rz hA 3 ?_;refine gr (rn hA 8 ?_);obtain⟨r3,dS⟩:=nm (R++[[.ii b5,.ii b4]]:RR);have jv:r3=aaN pD ((aaN wV (aa8 i a7))++([(⟨b5,b4⟩:lV)])):=by rw[dS];exact cM hR (by rfl)
  have AR:=ab hA jv;refine ju dS ?_ (hl:=by
   show(aaK R+aaK ([[.ii b5,.ii b4]])) * _<=_;show(aaK R+1) * 16<=_;rw[hR,aaS,aaS,aa1];omega)
  refine rz hA 2 ?_;refine gy hA 2 ?_;refine⟨_,_,?_,by cbv,i+1,(A.num .add .i64 n 1),r3,rfl,?_,rfl⟩
  ·
   omega
  refine⟨by rw[au hA (by omega) (by omega)];omega,by omega,?_⟩;rw[aa6,d6,abQ];exact jv
 have aV:(A.ao a6)<=n:=aQ hA c1;refine aI (gE ?_);refine gx hA 2 ?_;refine rt (gt ?_);show _=(PV.agg [.ii (A.num .add .i64 a5 1),.ii b2,.ii b1,.ii a8,.ow 2 R]);simp only[hR,aaU (show aaK a7<=i by omega),wst];rfl
def ZN (p0:Int)(p1 p2:RR)(p3:Int)(p4:RR)(p5 p6 p7 p8 p9 fj:Int)(fc:RR):St:={sl:=.aa::.pt 1 0 0::.pt 2 0 0::.pt 3 0 0::.ii p0::JD,bl:=[(1,⟨.var,8,[[.sl 1 p1,.sl 2 p2,.ii p3,.sl 4 p4,.ii p5,.ii p6,.ii p7,.ii p8]]⟩),(2,⟨.var,5,[[.ii p9,.ii p9,.ii p9,.ii p9,.zc]]⟩),(3,⟨.var,5,[[.ii fj,.ii p5,.ii p6,.ii p8,.own 7003]]⟩),(7003,⟨.arr,2,fc⟩)]}
theorem Hf (A:ax)(hA:A=aj)(x:bF)(h1:0<=x.fv)(h2:x.fv<=1000000000)(hu:x.Used.length<=1048576):al 50 [.agg (mT x)] (.agg (Nw ⟨x.fv+1,x.dZ,x.ea,x.cT,aaN wV x.Used⟩)):=by
 obtain⟨⟨b9,d1⟩,d4,a7,b2,b1,a5,a8⟩:=x;obtain⟨a9,b7,d9⟩:=nr hA ah b9;obtain⟨b3,b8,e1⟩:=nr hA bn d1;obtain⟨a6,c0,e6⟩:=nr hA cA a7;refine ak (az:=[.agg [.sl 1 a9,.sl 2 b3,.ii d4,.sl 4 a6,.ii b2,.ii b1,.ii a5,.ii a8]]) (by subst b7 b8 c0;rfl) ?_;have h1:0<=a5:=h1;have h2:a5<=1000000000:=h2;have hu:aaK a7<=1048576:=hu;have wst:A.num .add .i64 a5 1=a5+1:=by rw[au hA (by omega) (by omega)]
 refine aY Tryz.func50 ?_;refine gx hA 2 ?_;refine gx hA 12 ?_;refine gs (gx hA 1 ?_);refine af ?_;refine aF (λσ m=>∃(i:Nat) (n:Int) (R:RR),σ=(ZN n a9 b3 d4 a6 b2 b1 a5 a8 0 (A.num .add .i64 a5 1) R)/\(n=(i:Int)/\i<=aaK a7/\R=aaN pD (aaN wV (aa8 i a7)))/\m=aaK a7 - i) _ [.cell 3 4 7003 2,.up 7003,.up 3,.up 2,.up 1] [1,2,3,4] [1,2,3,7003] _ rfl (by cbv) ⟨0,0,[],rfl,?_,rfl⟩ (λσ m hI=>?_)
 ·
  exact⟨rfl,aaW _,rfl⟩
 obtain⟨i,n,R,rfl,⟨hn,hi,hR⟩,rfl⟩:=hI;refine gs (gx hA 5 ?_);refine gc (λc1=>?_) (λc1=>?_)
 ·
  have aV:n < (A.ao a6):=aP hA c1;refine gk (gs (af ?_));refine cR [0,1,2,3,4,5,6,7,8,9,10,11,12,13,14,15,16,17,18] (by cbv) ?_;refine cH hA 5 ?_;obtain⟨e4,f6,x2,cX,e8⟩:=ga a7 n (by omega) (by omega);obtain⟨b5,b4,d7,d0⟩:=x2;obtain⟨d5,d2,e5⟩:=nr hA aW d0;have e3:a6[(aaO n)]? =some [.ii b5,.ii b4,.ii d7,.sl 9 d5]:=by
   subst d2;exact bC cA c0 cX
  have d6:=cX;rw[hn] at d6;have d6:(a7)[i]? =some (⟨b5,b4,d7,d0⟩:bu):=d6;refine dc rfl rfl (jO rfl rfl rfl rfl rfl e4 rfl e3) ?_;refine cH hA 5 ?_;refine dc rfl rfl (jO rfl rfl rfl rfl rfl e4 rfl e3) ?_;refine cH hA 4 ?_;obtain⟨r3,dS⟩:=nm (R++[[.ii b5,.ii b4]]:RR);have jv:r3=aaN pD ((aaN wV (aa8 i a7))++([(⟨b5,b4⟩:lV)])):=by rw[dS];exact cM hR (by rfl)
  have AR:=ab hA jv;refine iF rfl rfl rfl rfl rfl rfl rfl (ij rfl rfl rfl rfl rfl rfl rfl rfl dS (by cbv) (by cbv) (by cbv) rfl (by
   show(aaK R+aaK ([[.ii b5,.ii b4]])) * _<=_;show(aaK R+1) * 16<=_;rw[hR,aaS,aaS,aa1];omega) (by decide) (by decide)) ?_
  refine cH hA 2 ?_;refine cS (by cbv) ?_;refine gy hA 3 ?_;refine⟨_,_,?_,by cbv,i+1,(A.num .add .i64 n 1),r3,rfl,?_,rfl⟩
  ·
   omega
  refine⟨by rw[au hA (by omega) (by omega)];omega,by omega,?_⟩;rw[aa6,d6,abQ];exact jv
 have aV:(A.ao a6)<=n:=aQ hA c1;refine aI (gE ?_);refine gx hA 2 ?_;refine rt (gt ?_);show _=(PV.agg [.ii (A.num .add .i64 a5 1),.ii b2,.ii b1,.ii a8,.ow 2 R]);simp only[hR,aaU (show aaK a7<=i by omega),wst];rfl
theorem Pk (A:ax)(hA:A=aj)(x:lV)(q0 q1:Int)(h:False):al 239 [.agg (lW x),.rd [.ii q0,.ii q1]] (.bool false):=h.elim
def S4 (p0:RR)(p1 p2 p3 p4:Int):St:={sl:=.sl 2 p0::.fn 239 [.rd [.ii p1,.ii p2]]::ql++.ii p3::.ii p4::tk,bl:=[]}
theorem D3 (A:ax)(hA:A=aj)(xs:List lV)(hx:(aaK xs:Int)<=4611686018427387904)(q0 q1:Int)(hp:∀ x∈xs,False):al 277 [.sl 2 (aaN lW xs),.fn 239 [.rd [.ii q0,.ii q1]]] (.ii (-1)):=by
 obtain⟨c4,e2,g3⟩:=nr hA lW xs;refine ak (az:=[.sl 2 c4,.fn 239 [.rd [.ii q0,.ii q1]]]) (by subst e2;rfl) ?_;refine aY Tryz.func277 ?_;refine gx hA 1 ?_;refine gs (gx hA 3 ?_);refine af ?_;refine aF (λσ m=>∃(i:Nat) (n:Int),σ=(S4 c4 q0 q1 (A.ao c4) n)/\(n=(i:Int)/\i<=aaK xs)/\m=aaK xs - i) _ [] [0,1,7,8] [] _ rfl (by cbv) ⟨0,0,rfl,?_,rfl⟩ (λσ m hI=>?_)
 ·
  exact⟨rfl,aaW _⟩
 obtain⟨i,n,rfl,⟨hn,hi⟩,rfl⟩:=hI;refine gx hA 1 ?_;refine gs ?_;refine gc (λc1=>?_) (λc1=>?_)
 ·
  have aV:n < (A.ao c4):=aP hA c1;refine gk (gs (af (gx hA 2 ?_)));refine gs (gr (rn hA 3 ?_));obtain⟨e4,f6,x2,cX,e8⟩:=ga xs n (by omega) (by omega);obtain⟨b5,b4⟩:=x2;have e3:c4[(aaO n)]? =some [.ii b5,.ii b4]:=by
   exact bC lW e2 cX
  refine ee e4 e3 ?_;refine rn hA 1 ?_;have cL:=Pk A hA (⟨b5,b4⟩:lV) q0 q1 (hp _ e8);refine aH cL (.inr rfl) ?_;refine od ?_;refine gc (λc5=>?_) (λc5=>?_)
  ·
   exact ay c5 (by rfl)
  refine gk (gy hA 2 ?_);refine⟨_,_,?_,by cbv,i+1,(A.num .add .i64 n 1),rfl,?_,rfl⟩
  ·
   omega
  exact⟨by rw[au hA (by omega) (by omega)];omega,by omega⟩
 have aV:(A.ao c4)<=n:=aQ hA c1;refine aI (gE ?_);refine gx hA 1 ?_;refine rt (gt ?_);show _=(PV.int .i64 (-1));rfl
theorem FE (A:ax)(hA:A=aj)(xs:List lV)(hx:(aaK xs:Int)<=4611686018427387904)(q0 q1:Int)(hp:∀ x∈xs,False):al 238 [.sl 2 (aaN lW xs),.fn 239 [.rd [.ii q0,.ii q1]]] (.bool false):=by
 obtain⟨c4,e2,g3⟩:=nr hA lW xs;refine ak (az:=[.sl 2 c4,.fn 239 [.rd [.ii q0,.ii q1]]]) (by subst e2;rfl) ?_;refine aY Tryz.func238 ?_;refine gx hA 1 ?_;refine gs (gr (rn hA 2 ?_));obtain⟨g9,f9,aJ⟩:=tb (D3 A hA xs hx q0 q1 hp);refine aH aJ (.inr rfl) ?_ (hv:=by subst e2;rfl);refine rz hA 2 ?_;refine rt (gt ?_);show _=(PV.bool (A.cmp .geq g9 0));rw[f9];subst hA;rfl
def Yb (p0 p1:Int)(p2:RR)(p3 p4 p5 p6:Int)(p7:RR):St:={sl:=.aa::.pt 1 0 0::BI++.own 16::.ii p0::.ii p1::Ea,bl:=[(16,⟨.arr,1,p2⟩),(1,⟨.var,5,[[.ii p3,.ii p4,.ii p5,.ii p6,.sl 2 p7]]⟩)]}
def Yc (p0:Int)(p1:RR)(p2 p3 p4 p5 p6 p7:Int):St:={sl:=.aa::.pt 1 0 0::dV++.ii p0::vh++.sl 2 p1::.ii p2::.ii p3::NL,bl:=[(1,⟨.var,5,[[.ii p4,.ii p5,.ii p6,.ii p7,.sl 2 p1]]⟩)]}
theorem Hg (A:ax)(hA:A=aj)(c:df)(hc:c=Nb):al 181 [.agg (xU c)] (.bool true):=by
 obtain⟨a4,a1,a2,a0,b0⟩:=c;obtain⟨a3,b6,e7⟩:=nr hA lW b0;refine ak (az:=[.agg [.ii a4,.ii a1,.ii a2,.ii a0,.sl 2 a3]]) (by subst b6;rfl) ?_;have k0:a4=1:=congrArg df.fv hc;have k1:a1=2:=congrArg df.dZ hc;have k2:a2=1:=congrArg df.ea hc;have k3:a0=1:=congrArg df.cT hc;have k4:b0=[⟨0,1⟩]:=congrArg df.Refs hc;have lk:aaK b0=1:=by rw[k4];rfl
 refine aY Tryz.func181 ?_;refine gx hA 2 ?_;refine gs (gs (gr (rn hA 8 ?_)));obtain⟨r1,ep⟩:=nm ([[.ii a4],[.ii a1],[.ii a2],[.ii a0]]:RR);have AT:r1=aaN bq ([a4,a1,a2,a0]:List Int):=by rw[ep];rfl
 have V7:=ab hA AT;refine fk rfl (xi rfl rfl rfl rfl rfl rfl rfl ep) ?_;refine rz hA 2 ?_;refine af ?_;refine aF (λσ m=>∃(i:Nat) (n:Int),σ=(Yb (A.ao r1) n r1 a4 a1 a2 a0 a3)/\(n=(i:Int)/\i<=aaK ([a4,a1,a2,a0]:List Int))/\m=aaK ([a4,a1,a2,a0]:List Int) - i) _ [] [1,16,17,18] [16,1] _ rfl (by cbv) ⟨0,0,rfl,?_,rfl⟩ (λσ m hI=>?_)
 ·
  exact⟨rfl,aaW _⟩
 obtain⟨i,n,rfl,⟨hn,hi⟩,rfl⟩:=hI;have h4:aaK ([a4,a1,a2,a0]:List Int)=4:=rfl;refine gx hA 1 ?_;refine gs ?_;refine gc (λc2=>?_) (λc2=>?_)
 ·
  have iY:n < (A.ao r1):=aP hA c2;refine gk (gs (af (gs (gr ?_))));obtain⟨g4,j8,x3,tc,g6⟩:=ga ([a4,a1,a2,a0]:List Int) n (by omega) (by omega);have g5:r1[(aaO n)]? =some [.ii x3]:=by
   exact bC bq AT tc
  have j7:1<=x3/\x3<=1000000000:=by
   have hq:=g6;simp only[List.mem_cons,List.not_mem_nil,or_false] at hq;omega
  have g1:n < (aaK r1:Int):=by
   rw[AT,aaS];omega
  refine nH g4 g1 ?_;refine bO rfl rfl (jM rfl rfl rfl rfl g5 rfl) ?_;refine rz hA 1 ?_;refine gs (gr (rn hA 1 ?_));have kU:=gO A hA x3 1 1000000000 (by omega) (by omega);refine aH kU (.inr rfl) ?_;refine rz hA 1 ?_;refine gc (λc7=>?_) (λc7=>?_)
  ·
   exact ay c7 (by subst hA;rfl)
  refine gk (gy hA 2 ?_);refine⟨_,_,?_,by cbv,i+1,(A.num .add .i64 n 1),rfl,?_,rfl⟩
  ·
   omega
  exact⟨by rw[au hA (by omega) (by omega)];omega,by omega⟩
 have iY:(A.ao r1)<=n:=aQ hA c2;refine aI (gE ?_);refine gs (gs (gr (rn hA 3 ?_)));have kA:=gO A hA (A.ao a3) 1 11 (by omega) (by omega);refine aH kA (.inr rfl) ?_;refine rz hA 1 ?_;refine gc (λcB=>?_) (λcB=>?_)
 ·
  exact ay cB (by subst hA;rfl)
 refine gk (gx hA 1 ?_);refine gs (gx hA 4 ?_);refine af ?_;refine aF (λσ m=>∃(k:Nat) (n2 la:Int),σ=(Yc la a3 (A.ao a3) n2 a4 a1 a2 a0)/\(n2=(k:Int)/\k<=aaK b0/\(k=0->la=0))/\m=aaK b0 - k) _ [] [1,5,32,33,34] [1] _ rfl (by cbv) ⟨0,0,0,rfl,?_,rfl⟩ (λσ m hI=>?_)
 ·
  exact⟨rfl,aaW _,λ_=>rfl⟩
 obtain⟨k,n2,la,rfl,⟨hk,hkl,hla⟩,rfl⟩:=hI;refine gx hA 1 ?_;refine gs ?_;refine gc (λcf=>?_) (λcf=>?_)
 ·
  have i2:n2 < (A.ao a3):=aP hA cf;refine gk (gs (af (gs (gr (rn hA 1 ?_)))));obtain⟨g0,j1,x12,f3,i7⟩:=ga b0 n2 (by omega) (by omega);obtain⟨e0,c8⟩:=x12;have f7:a3[(aaO n2)]? =some [.ii e0,.ii c8]:=by
   exact bC lW b6 f3
  obtain⟨f0,j3⟩:=Cd k4 f3;have i8:e0=0:=congrArg lV.No f0;have i9:c8=1:=congrArg lV.jy f0;refine ee g0 f7 ?_;refine rz hA 4 ?_;refine gs (gs (gr (rn hA 7 ?_)));have e9:=gO A hA c8 (A.num .add .i64 la 1) (A.num .sub .i64 a1 1) (by rw[au hA (by omega) (by omega)];omega) (by rw[dE hA (by omega) (by omega)];omega);refine aH e9 (.inr rfl) ?_;refine rn hA 2 ?_;refine ag 48 rfl (λeL=>?_) (λeL=>?_)
  ·
   exact ay eL (by subst hA;rfl)
  refine rn hA 2 ?_;have i1:=gO A hA e0 0 10 (by omega) (by omega);refine fC i1 (.inr rfl) ?_;refine rn hA 3 ?_;refine ag 54 rfl (λiu=>?_) (λiu=>?_)
  ·
   exact ay iu (by subst hA;rfl)
  refine rn hA 3 ?_;obtain⟨u19,f2⟩:=nm ((abi (aaO 0) a3).take (aaO n2 - aaO 0):RR);have f4:u19=aaN lW (aa8 (aaO n2) b0):=by rw[f2,b6];exact(List.map_take ..).symm
  have j9:=ab hA f4;refine qf rfl rfl rfl rfl (AJ rfl rfl rfl rfl rfl rfl (by decide) (by omega) (by rw[b6,aaS];omega) rfl f2) ?_;refine rn hA 1 ?_;have g8:al 238 [.sl 2 u19,.fn 239 [.rd [.ii e0,.ii c8]]] (.bool false):=by subst f4;exact FE A hA (aa8 (aaO n2) b0) (by rw[show aaO n2=0 by omega];exact(by decide:((0:Nat):Int)<=4611686018427387904)) _ _ (λx hx=>by rw[show aaO n2=0 by omega,List.take_zero] at hx;cases hx)
  refine fC g8 (.inl trivial) ?_;refine rz hA 1 ?_;refine gc (λsm=>?_) (λsm=>?_)
  ·
   exact ay sm (by rfl)
  refine gk (gy hA 3 ?_);refine gy hA 2 ?_;refine⟨_,_,?_,by cbv,k+1,(A.num .add .i64 n2 1),c8,rfl,?_,rfl⟩
  ·
   omega
  exact⟨by rw[au hA (by omega) (by omega)];omega,by omega,λh=>by omega⟩
 have i2:(A.ao a3)<=n2:=aQ hA cf;refine aI (gE ?_);refine gx hA 1 ?_;refine rt (gt ?_);show _=(PV.bool true);rfl
def Yd (p0 p1 p2 p3 p4:Int)(p5:RR):St:={sl:=.aa::.pt 1 0 0::.aa::.ii p0::YP,bl:=[(1,⟨.var,5,[[.ii p1,.ii p2,.ii p3,.ii p4,.sl 2 p5]]⟩)]}
def Ye (p0 p1 p2 p3 p4:Int)(p5 p6 p7 p8:Bool)(p9 fj fc ku:Int)(ou:RR):St:={sl:=.aa::.pt 1 0 0::.aa::.ii p0::.pt 4 0 0::.ii p1::Ea++.pt 4 0 1::.ii p2::.pt 1 0 1::.ii p3::.ii p4::.bool p5::.bool p6::.aa::.aa::.ii p0::.bool p7::.bool p8::.aw []::.aw []::.aw []::.aw []::.aw []::.aw []::.aw []::.aw []::.aw []::.aw []::.bool p8::vg,bl:=[(4,⟨.var,2,[[.ii p9,.ii p2]]⟩),(1,⟨.var,5,[[.ii fj,.ii p3,.ii fc,.ii ku,.sl 2 ou]]⟩)]}
theorem Hh (A:ax)(hA:A=aj)(c:df)(hc:c=Nb):al 147 [.agg (xU c)] (.bool true):=by
 obtain⟨a4,a1,a2,a0,b0⟩:=c;obtain⟨a3,b6,e7⟩:=nr hA lW b0;refine ak (az:=[.agg [.ii a4,.ii a1,.ii a2,.ii a0,.sl 2 a3]]) (by subst b6;rfl) ?_;have k0:a4=1:=congrArg df.fv hc;have k1:a1=2:=congrArg df.dZ hc;have k2:a2=1:=congrArg df.ea hc;have k3:a0=1:=congrArg df.cT hc;have k4:b0=[⟨0,1⟩]:=congrArg df.Refs hc;have lk:aaK b0=1:=by rw[k4];rfl
 refine aY Tryz.func147 ?_;refine gx hA 2 ?_;refine gs (gs (gr (rn hA 2 ?_)));have aJ:=ff A hA a4 1 1000000000 (by omega) (by omega);refine aH aJ (.inr rfl) ?_;refine rn hA 2 ?_;refine ag 10 rfl (λc3=>?_) (λc3=>?_)
 ·
  exact ay c3 (by subst hA;rfl)
 refine rn hA 2 ?_;have eu:=ff A hA a1 1 1000000000 (by omega) (by omega);refine fC eu (.inr rfl) ?_;refine rn hA 3 ?_;refine ag 16 rfl (λc6=>?_) (λc6=>?_)
 ·
  exact ay c6 (by subst hA;rfl)
 refine rn hA 2 ?_;have jQ:=ff A hA a2 1 1000000000 (by omega) (by omega);refine fC jQ (.inr rfl) ?_;refine rn hA 3 ?_;refine ag 22 rfl (λc9=>?_) (λc9=>?_)
 ·
  exact ay c9 (by subst hA;rfl)
 refine rn hA 2 ?_;have g7:=ff A hA a0 1 1000000000 (by omega) (by omega);refine fC g7 (.inr rfl) ?_;refine rn hA 3 ?_;refine ag 28 rfl (λcZ=>?_) (λcZ=>?_)
 ·
  exact ay cZ (by subst hA;rfl)
 refine rn hA 3 ?_;have e9:=ff A hA (A.ao a3) 1 11 (by omega) (by omega);refine fC e9 (.inr rfl) ?_;refine rz hA 2 ?_;refine gc (λeL=>?_) (λeL=>?_)
 ·
  exact ay eL (by subst hA;rfl)
 refine gk (gs (gx hA 1 ?_));refine af ?_;refine aF (λσ m=>∃(i:Nat) (n:Int),σ=(Yd n a4 a1 a2 a0 a3)/\(n=(i:Int)/\i<=aaK b0)/\m=aaK b0 - i) _ [] [1,3] [1] _ rfl (by cbv) ⟨0,0,rfl,?_,rfl⟩ (λσ m hI=>?_)
 ·
  exact⟨rfl,aaW _⟩
 obtain⟨i,n,rfl,⟨hn,hi⟩,rfl⟩:=hI;refine gs (gx hA 5 ?_);refine gc (λiA=>?_) (λiA=>?_)
 ·
  have i5:n < (A.ao a3):=aP hA iA;refine gk (gs (af (gs (gr (rn hA 3 ?_)))));obtain⟨g2,j0,x17,f5,j5⟩:=ga b0 n (by omega) (by omega);obtain⟨d8,d3⟩:=x17;have f8:a3[(aaO n)]? =some [.ii d8,.ii d3]:=by
   exact bC lW b6 f5
  obtain⟨f1,j4⟩:=Cd k4 f5;have j6:d8=0:=congrArg lV.No f1;have j2:d3=1:=congrArg lV.jy f1;refine ee g2 f8 ?_;refine rz hA 3 ?_;refine gs (gs ?_);refine cz [0,1,2,3,4,5,6,7,8,9,10,11,12,13,14,15,16,17,18,19,20,21,22,23,24,25,26,27,28] (by cbv) ?_;refine bL hA 2 ?_;have i6:=ff A hA d8 0 10 (by omega) (by omega);refine eQ i6 (.inr rfl) ?_;refine bL hA 2 ?_;refine bV 51 rfl (λjw=>?_) (λjw=>?_)
  ·
   exact ay jw (by subst hA;rfl)
  refine bL hA 5 ?_;have i0:=ff A hA d3 1 (A.num .sub .i64 a1 1) (by omega) (by rw[dE hA (by omega) (by omega)];omega);refine fE rfl rfl rfl rfl (by cbv) (by cbv) i0 (.inr rfl) ?_;refine bL hA 3 ?_;refine bV 60 rfl (λjR=>?_) (λjR=>?_)
  ·
   exact ay jR (by subst hA;rfl)
  refine bL hA 3 ?_;refine bV 63 rfl (λjW=>?_) (λjW=>?_)
  ·
   have i3:0 < n:=dJ hA jW;exfalso;omega
  have i3:n<=0:=dL hA jW;refine dz hA 12 ?_;refine gc (λoV=>?_) (λoV=>?_)
  ·
   exact ay oV (by rfl)
  refine gk (gx hA 1 ?_);refine af ?_;refine aF (λσ m=>∃(n2:Int),σ=(Ye n n2 d3 a1 (A.num .sub .i64 a1 1) true (A.eB true) (A.cmp .gtr n 0) false d8 a4 a2 a0 a3)/\(n2=0)/\m=0) _ [] [1,3,4,5,52,53,54,55,56,57,58,61,62,63,64,65,66,67,68,69,70,71,72,73,74] [4,1] _ rfl (by cbv) ⟨0,rfl,?_,rfl⟩ (λσ m hI=>?_)
  ·
   exact rfl
  obtain⟨n2,rfl,nG,rfl⟩:=hI;refine gs (gx hA 3 ?_);refine gc (λsW=>?_) (λsW=>?_)
  ·
   have i4:n2 < n:=aP hA sW;exfalso;omega
  have i4:n<=n2:=aQ hA sW;refine aI (gE ?_);refine gy hA 3 ?_;refine⟨_,_,?_,by cbv,i+1,(A.num .add .i64 n 1),rfl,?_,rfl⟩
  ·
   omega
  exact⟨by rw[au hA (by omega) (by omega)];omega,by omega⟩
 have i5:(A.ao a3)<=n:=aQ hA iA;refine aI (gE ?_);refine gx hA 1 ?_;refine rt (gt ?_);show _=(PV.bool true);rfl
def Yf (p0:ByteArray)(p1:RR)(p2 p3:Int):St:={sl:=iB++.str p0::JA++.sl 2 p1::.ii p2::.ii p3::vh,bl:=[]}
theorem D4 (A:ax)(hA:A=aj)(c:df)(hc:c=Nb):al 113 [.agg (xU c)] (.aw [.str (xG A),.bool true]):=by
 obtain⟨a5,a3,a2,a1,a4⟩:=c;obtain⟨a0,a6,b7⟩:=nr hA lW a4;refine ak (az:=[.agg [.ii a5,.ii a3,.ii a2,.ii a1,.sl 2 a0]]) (by subst a6;rfl) ?_;have k0:a5=1:=congrArg df.fv hc;have k1:a3=2:=congrArg df.dZ hc;have k2:a2=1:=congrArg df.ea hc;have k3:a1=1:=congrArg df.cT hc;have k4:a4=[⟨0,1⟩]:=congrArg df.Refs hc;have lk:aaK a4=1:=by rw[k4];rfl
 refine aY Tryz.func113 ?_;refine gx hA 3 ?_;refine gs (gs (gr (rn hA 1 ?_)));have aJ:=Hg A hA (⟨a5,a3,a2,a1,a4⟩:df) hc;refine aH aJ (.inr rfl) ?_ (hv:=by subst a6;rfl);refine rz hA 1 ?_;refine gc (λc3=>?_) (λc3=>?_)
 ·
  exact ay c3 (by subst hA;rfl)
 refine gk (gs ?_);refine cz [0,1,2,3,4,5,6,7,8,9,10,11,12,13,14,15,16,17,18,19,20] (by cbv) ?_;refine bL hA 2 ?_;obtain⟨d0,f1,eu⟩:=fe (eY A hA a5 (by omega) (by omega));have m5:aaL d0<=5:=by rw[f1,bg,fx];exact cq _ (by omega)
 refine eQ eu (.inr rfl) ?_;refine bL hA 2 ?_;obtain⟨d2,e8,fq⟩:=fe (eY A hA a3 (by omega) (by omega));have n4:aaL d2<=5:=by rw[e8,bg,fx];exact cq _ (by omega)
 refine eQ fq (.inr rfl) ?_;obtain⟨s8,uU⟩:=nm (d0++d2:ByteArray);have W7:aaL s8=aaL d0+aaL d2:=by rw[uU];exact aaT
 have LH:aaL d0+aaL d2<=140737488355328:=by
  have m4:aaL d0<=5:=by rw[f1,bg,fx];exact cq _ (by omega)
  have m7:aaL d2<=5:=by rw[e8,bg,fx];exact cq _ (by omega)
  omega
 refine nb uU LH ?_;refine bL hA 2 ?_;obtain⟨d3,f3,i0⟩:=fe (eY A hA a2 (by omega) (by omega));have n0:aaL d3<=5:=by rw[f3,bg,fx];exact cq _ (by omega)
 refine eQ i0 (.inr rfl) ?_;obtain⟨vW,c5⟩:=nm (s8++d3:ByteArray);have i7:aaL vW=aaL s8+aaL d3:=by rw[c5];exact aaT
 have g0:aaL s8+aaL d3<=140737488355328:=by
  have n2:aaL d3<=5:=by rw[f3,bg,fx];exact cq _ (by omega)
  omega
 refine nb c5 g0 ?_;refine bL hA 2 ?_;obtain⟨c0,d7,g7⟩:=fe (eY A hA a1 (by omega) (by omega));have m1:aaL c0<=5:=by rw[d7,bg,fx];exact cq _ (by omega)
 refine eQ g7 (.inr rfl) ?_;obtain⟨mL,c7⟩:=nm (vW++c0:ByteArray);have i6:aaL mL=aaL vW+aaL c0:=by rw[c7];exact aaT
 have g2:aaL vW+aaL c0<=140737488355328:=by
  have k5:aaL c0<=5:=by rw[d7,bg,fx];exact cq _ (by omega)
  omega
 refine nb c7 g2 ?_;refine bL hA 3 ?_;obtain⟨b5,d5,g4⟩:=fe (eY A hA (A.ao a0) (by omega) (by omega));have j8:aaL b5<=5:=by rw[d5,bg,fx];exact cq _ (by omega)
 refine eQ g4 (.inr rfl) ?_;obtain⟨qi,c4⟩:=nm (mL++b5:ByteArray);have j6:aaL qi=aaL mL+aaL b5:=by rw[c4];exact aaT
 have g3:aaL mL+aaL b5<=140737488355328:=by
  have l0:aaL b5<=5:=by rw[d5,bg,fx];exact cq _ (by omega)
  omega
 refine nb c4 g3 ?_;refine dz hA 1 ?_;refine gs (gx hA 4 ?_);refine af ?_;refine aF (λσ m=>∃(i:Nat) (n:Int) (S:ByteArray),σ=(Yf S a0 (A.ao a0) n)/\(n=(i:Int)/\i<=aaK a4/\S=if i=0 then ckP else Fg)/\m=aaK a4 - i) _ [] [4,32,33,34] [] _ rfl (by cbv) ⟨0,0,qi,rfl,?_,rfl⟩ (λσ m hI=>?_)
 ·
  refine⟨rfl,aaW _,?_⟩;rw[if_pos rfl,c4,c7,c5,uU,f1,e8,f3,d7,d5];simp only[show cn A a5=[1] from by rw[k0];exact iP hA _ (by decide) (by decide),show cn A a3=[2] from by rw[k1];exact iP hA _ (by decide) (by decide),show cn A a2=[1] from by rw[k2];exact iP hA _ (by decide) (by decide),show cn A a1=[1] from by rw[k3];exact iP hA _ (by decide) (by decide),show cn A (A.ao a0)=[1] from by rw[b7,lk];exact iP hA _ (by decide) (by decide)];rfl
 obtain⟨i,n,S,rfl,⟨hn,hi,hS⟩,rfl⟩:=hI;have zS:aaL S<=7:=by rw[hS];split<;>decide
 refine gx hA 1 ?_;refine gs ?_;refine gc (λiu=>?_) (λiu=>?_)
 ·
  have g8:n < (A.ao a0):=aP hA iu;refine gk (gs (af (gs (gr ?_))));obtain⟨e6,i2,Ro,e9,i3⟩:=ga a4 n (by omega) (by omega);obtain⟨a8,a7⟩:=Ro;have e5:a0[(aaO n)]? =some [.ii a8,.ii a7]:=by
   exact bC lW a6 e9
  obtain⟨c9,i4⟩:=Cd k4 e9;have f5:a8=0:=congrArg lV.No c9;have f6:a7=1:=congrArg lV.jy c9;refine ee e6 e5 ?_;refine rz hA 3 ?_;refine cz [0,1,2,3,4,5,6,7,8,9] (by cbv) ?_;refine bL hA 3 ?_;obtain⟨b3,e0,f9⟩:=fe (eY A hA a8 (by omega) (by omega));have m2:aaL b3<=5:=by rw[e0,bg,fx];exact cq _ (by omega)
  refine eQ f9 (.inr rfl) ?_;refine bL hA 2 ?_;obtain⟨b9,e1,l7⟩:=fe (eY A hA a7 (by omega) (by omega));have j2:aaL b9<=5:=by rw[e1,bg,fx];exact cq _ (by omega)
  refine eQ l7 (.inr rfl) ?_;obtain⟨Um,f8⟩:=nm (b3++b9:ByteArray);have n7:aaL Um=aaL b3+aaL b9:=by rw[f8];exact aaT
  have k7:aaL b3+aaL b9<=140737488355328:=by
   have k9:aaL b3<=5:=by rw[e0,bg,fx];exact cq _ (by omega)
   have j5:aaL b9<=5:=by rw[e1,bg,fx];exact cq _ (by omega)
   omega
  refine nb f8 k7 ?_;obtain⟨IM,c6⟩:=nm (S++Um:ByteArray);have j0:aaL IM=aaL S+aaL Um:=by rw[c6];exact aaT
  have g6:aaL S+aaL Um<=140737488355328:=by
   omega
  refine nb c6 g6 ?_;refine dz hA 1 ?_;refine gy hA 2 ?_;refine⟨_,_,?_,by cbv,i+1,(A.num .add .i64 n 1),IM,rfl,?_,rfl⟩
  ·
   omega
  refine⟨by rw[au hA (by omega) (by omega)];omega,by omega,?_⟩;rw[if_neg (by omega),c6,f8,e0,e1,hS,if_pos (by omega)];simp only[show cn A a8=[0] from by rw[f5];exact iP hA _ (by decide) (by decide),show cn A a7=[1] from by rw[f6];exact iP hA _ (by decide) (by decide)];rfl
 have g8:(A.ao a0)<=n:=aQ hA iu;refine aI (gE ?_);refine gs (gr (rn hA 2 ?_));obtain⟨b6,d6,i1⟩:=fe (C8 A hA S (by omega));refine aH i1 (.inr rfl) ?_;obtain⟨IV,g9⟩:=nm (S++b6:ByteArray);have n8:aaL IV=aaL S+aaL b6:=by rw[g9];exact aaT
 have i5:aaL S+aaL b6<=140737488355328:=by
  have j9:aaL b6=4:=by rw[d6];exact mF _ _ _
  omega
 refine zg g9 i5 ?_;refine rz hA 1 ?_;refine gs ?_;have hB:S=Fg:=by rw[hS,if_neg (by omega)]
 have zB:aaL S=7:=by rw[hB];rfl
 have zv:aaL b6=4:=by rw[d6];exact mF _ _ _
 have zl:=aS hA IV;have wl:cn A (A.bA IV)=[11]:=by rw[zl,show(aaL IV:Int)=11 by omega];exact iP hA _ (by decide) (by decide)
 refine gr (rn hA 2 ?_);obtain⟨b1,c2,j3⟩:=fe (eY A hA (A.bA IV) (by omega) (by omega));have l5:aaL b1<=5:=by rw[c2,bg,fx];exact cq _ (by omega)
 refine aH j3 (.inr rfl) ?_;refine rn hA 1 ?_;obtain⟨Rp,g5⟩:=nm (b1++IV:ByteArray);have n6:aaL Rp=aaL b1+aaL IV:=by rw[g5];exact aaT
 have m0:aaL b1+aaL IV<=140737488355328:=by
  have l4:aaL b1<=5:=by rw[c2,bg,fx];exact cq _ (by omega)
  omega
 refine zg g5 m0 ?_;refine rz hA 1 ?_;refine gs (gs ?_);have zo:=aS hA Rp;have zn:aaL b1=1:=by rw[c2,wl];rfl
 refine gy hA 3 ?_;refine gc (λuJ=>?_) (λuJ=>?_)
 ·
  have j4:128 < (A.bA Rp):=dJ hA uJ;exfalso;omega
 have j4:(A.bA Rp)<=128:=dL hA uJ;refine gk (gx hA 3 ?_);refine rt (gt ?_);show _=PV.aw [.str Rp,.bool true];rw[g5,c2,wl,g9,d6,hB];rfl
theorem Hi (A:ax)(hA:A=aj)(t:ByteArray)(h:t.size=7):al 144 [.str t] (.aw [.str (t++oM A (fL A) t),.bool true]):=by
 have hr:=zG A hA t (by omega);have e:iK A (iw A) t=t++oM A (fL A) t:=by rw[iK,if_neg (by omega),IH hA]
 have e2:iL t=true:=by unfold iL;rw[decide_eq_false (by omega)];rfl
 rw[e,e2] at hr;exact hr
def ZO (p0:ByteArray)(p1 p2 p3 p4 p5:Int)(p6:RR):St:={sl:=.aa::.pt 1 0 0::.aa::.aa::.str p0::.ii p1::YM,bl:=[(1,⟨.var,5,[[.ii p2,.ii p3,.ii p4,.ii p5,.sl 2 p6]]⟩)]}
theorem D5 (A:ax)(hA:A=aj)(c:df)(hc:c=Nb):al 87 [.agg (xU c)] (.aw [.str (xG A),.bool true]):=by
 obtain⟨a5,a3,a2,a1,a4⟩:=c;obtain⟨a0,a6,b7⟩:=nr hA lW a4;refine ak (az:=[.agg [.ii a5,.ii a3,.ii a2,.ii a1,.sl 2 a0]]) (by subst a6;rfl) ?_;have k0:a5=1:=congrArg df.fv hc;have k1:a3=2:=congrArg df.dZ hc;have k2:a2=1:=congrArg df.ea hc;have k3:a1=1:=congrArg df.cT hc;have k4:a4=[⟨0,1⟩]:=congrArg df.Refs hc;have lk:aaK a4=1:=by rw[k4];rfl
 refine aY Tryz.func87 ?_;refine gx hA 3 ?_;refine gs (gs (gr (rn hA 1 ?_)));have aJ:=Hh A hA (⟨a5,a3,a2,a1,a4⟩:df) hc;refine aH aJ (.inr rfl) ?_ (hv:=by subst a6;rfl);refine rz hA 1 ?_;refine gc (λc3=>?_) (λc3=>?_)
 ·
  exact ay c3 (by subst hA;rfl)
 refine gk (gs ?_);refine cz [0,1,2,3,4,5,6,7,8,9,10,11,12,13,14,15,16,17,18,19,20] (by cbv) ?_;refine bL hA 2 ?_;obtain⟨d1,f2,eu⟩:=fe (ef A hA a5 (by omega) (by omega));have m6:aaL d1<=5:=by rw[f2,bg,eI];exact cq _ (by omega)
 refine eQ eu (.inr rfl) ?_;refine bL hA 2 ?_;obtain⟨d4,f0,fq⟩:=fe (ef A hA a3 (by omega) (by omega));have n3:aaL d4<=5:=by rw[f0,bg,eI];exact cq _ (by omega)
 refine eQ fq (.inr rfl) ?_;obtain⟨s8,uU⟩:=nm (d1++d4:ByteArray);have W7:aaL s8=aaL d1+aaL d4:=by rw[uU];exact aaT
 have LH:aaL d1+aaL d4<=140737488355328:=by
  have n1:aaL d1<=5:=by rw[f2,bg,eI];exact cq _ (by omega)
  have m9:aaL d4<=5:=by rw[f0,bg,eI];exact cq _ (by omega)
  omega
 refine nb uU LH ?_;refine bL hA 2 ?_;obtain⟨c8,e7,i0⟩:=fe (ef A hA a2 (by omega) (by omega));have n5:aaL c8<=5:=by rw[e7,bg,eI];exact cq _ (by omega)
 refine eQ i0 (.inr rfl) ?_;obtain⟨vW,c5⟩:=nm (s8++c8:ByteArray);have i7:aaL vW=aaL s8+aaL c8:=by rw[c5];exact aaT
 have g0:aaL s8+aaL c8<=140737488355328:=by
  have m8:aaL c8<=5:=by rw[e7,bg,eI];exact cq _ (by omega)
  omega
 refine nb c5 g0 ?_;refine bL hA 2 ?_;obtain⟨c1,d8,g7⟩:=fe (ef A hA a1 (by omega) (by omega));have l6:aaL c1<=5:=by rw[d8,bg,eI];exact cq _ (by omega)
 refine eQ g7 (.inr rfl) ?_;obtain⟨mL,c7⟩:=nm (vW++c1:ByteArray);have i6:aaL mL=aaL vW+aaL c1:=by rw[c7];exact aaT
 have g2:aaL vW+aaL c1<=140737488355328:=by
  have i9:aaL c1<=5:=by rw[d8,bg,eI];exact cq _ (by omega)
  omega
 refine nb c7 g2 ?_;refine bL hA 3 ?_;obtain⟨b4,d9,g4⟩:=fe (ef A hA (A.ao a0) (by omega) (by omega));have l3:aaL b4<=5:=by rw[d9,bg,eI];exact cq _ (by omega)
 refine eQ g4 (.inr rfl) ?_;obtain⟨qi,c4⟩:=nm (mL++b4:ByteArray);have j6:aaL qi=aaL mL+aaL b4:=by rw[c4];exact aaT
 have g3:aaL mL+aaL b4<=140737488355328:=by
  have j1:aaL b4<=5:=by rw[d9,bg,eI];exact cq _ (by omega)
  omega
 refine nb c4 g3 ?_;refine dz hA 1 ?_;refine gs (gx hA 1 ?_);refine af ?_;refine aF (λσ m=>∃(i:Nat) (n:Int) (S:ByteArray),σ=(ZO S n a5 a3 a2 a1 a0)/\(n=(i:Int)/\i<=aaK a4/\S=if i=0 then ckP else Fg)/\m=aaK a4 - i) _ [] [1,4,5] [1] _ rfl (by cbv) ⟨0,0,qi,rfl,?_,rfl⟩ (λσ m hI=>?_)
 ·
  refine⟨rfl,aaW _,?_⟩;rw[if_pos rfl,c4,c7,c5,uU,f2,f0,e7,d8,d9];simp only[show dp A a5=[1] from by rw[k0];exact nC hA _ (by decide) (by decide),show dp A a3=[2] from by rw[k1];exact nC hA _ (by decide) (by decide),show dp A a2=[1] from by rw[k2];exact nC hA _ (by decide) (by decide),show dp A a1=[1] from by rw[k3];exact nC hA _ (by decide) (by decide),show dp A (A.ao a0)=[1] from by rw[b7,lk];exact nC hA _ (by decide) (by decide)];rfl
 obtain⟨i,n,S,rfl,⟨hn,hi,hS⟩,rfl⟩:=hI;have zS:aaL S<=7:=by rw[hS];split<;>decide
 refine gs (gx hA 5 ?_);refine gc (λiu=>?_) (λiu=>?_)
 ·
  have g8:n < (A.ao a0):=aP hA iu;refine gk (gs (af ?_));refine cz [0,1,2,3,4,5,6,7,8,9,10,11,12,13,14,15,16,17] (by cbv) ?_;refine bL hA 4 ?_;obtain⟨e6,i2,Ro,e9,i3⟩:=ga a4 n (by omega) (by omega);obtain⟨a8,a7⟩:=Ro;have e5:a0[(aaO n)]? =some [.ii a8,.ii a7]:=by
   exact bC lW a6 e9
  obtain⟨c9,i4⟩:=Cd k4 e9;have f5:a8=0:=congrArg lV.No c9;have f6:a7=1:=congrArg lV.jy c9;refine ob e6 e5 ?_;refine bL hA 2 ?_;obtain⟨b2,e4,f9⟩:=fe (ef A hA a8 (by omega) (by omega));have l9:aaL b2<=5:=by rw[e4,bg,eI];exact cq _ (by omega)
  refine eQ f9 (.inr rfl) ?_;obtain⟨Un,g1⟩:=nm (S++b2:ByteArray);have n9:aaL Un=aaL S+aaL b2:=by rw[g1];exact aaT
  have l2:aaL S+aaL b2<=140737488355328:=by
   have i8:aaL b2<=5:=by rw[e4,bg,eI];exact cq _ (by omega)
   omega
  refine nb g1 l2 ?_;refine bL hA 3 ?_;refine ob e6 e5 ?_;refine bL hA 2 ?_;obtain⟨b8,e3,l1⟩:=fe (ef A hA a7 (by omega) (by omega));have j7:aaL b8<=5:=by rw[e3,bg,eI];exact cq _ (by omega)
  refine eQ l1 (.inr rfl) ?_;obtain⟨IM,c6⟩:=nm (Un++b8:ByteArray);have j0:aaL IM=aaL Un+aaL b8:=by rw[c6];exact aaT
  have g6:aaL Un+aaL b8<=140737488355328:=by
   have k6:aaL b8<=5:=by rw[e3,bg,eI];exact cq _ (by omega)
   omega
  refine nb c6 g6 ?_;refine dz hA 1 ?_;refine gy hA 3 ?_;refine⟨_,_,?_,by cbv,i+1,(A.num .add .i64 n 1),IM,rfl,?_,rfl⟩
  ·
   omega
  refine⟨by rw[au hA (by omega) (by omega)];omega,by omega,?_⟩;rw[if_neg (by omega),c6,g1,e4,e3,hS,if_pos (by omega)];simp only[show dp A a8=[0] from by rw[f5];exact nC hA _ (by decide) (by decide),show dp A a7=[1] from by rw[f6];exact nC hA _ (by decide) (by decide)];rfl
 have g8:(A.ao a0)<=n:=aQ hA iu;refine aI (gE ?_);refine gs ?_;have hB:S=Fg:=by rw[hS,if_neg (by omega)]
 have zB:aaL S=7:=by rw[hB];rfl
 refine gr (rn hA 1 ?_);obtain⟨a9,f7,i1⟩:=S0 (Hi A hA S zB);refine aH i1 (.inr rfl) ?_;refine rz hA 5 ?_;refine gs ?_;have ws:a9=Fg++oM A (fL A) Fg:=by rw[f7,hB]
 have zq:aaL a9=11:=by rw[ws,aaT,mF];rfl
 refine gr (rn hA 1 ?_);obtain⟨b0,f4,m3⟩:=fe (nP A hA a9 (by omega));have k8:aaL b0<=1048600:=by rw[f4,aaT,bg,eI];have:=cq (aaL a9:Int) (by omega);omega
 refine aH m3 (.inr rfl) ?_;refine rz hA 1 ?_;refine gs (gs ?_);have wl:dp A (aaL a9:Int)=[11]:=by rw[show(aaL a9:Int)=11 by omega];exact nC hA _ (by decide) (by decide)
 have wz:b0=xG A:=by rw[f4,wl,ws];rfl
 have zo:=aS hA b0;have zn:aaL b0=12:=by rw[wz];exact yQ A
 refine gr (rn hA 3 ?_);refine ag 65 rfl (λsX=>?_) (λsX=>?_)
 ·
  exact ay sX (by subst hA;rfl)
 refine rz hA 4 ?_;refine gc (λoo=>?_) (λoo=>?_)
 ·
  have l8:128 < (A.bA b0):=dJ hA oo;exfalso;omega
 have l8:(A.bA b0)<=128:=dL hA oo;refine gk (gx hA 3 ?_);refine rt (gt ?_);show _=PV.aw [.str b0,.bool true];rw[wz]
theorem IW (z:bu):(bW z).map (fixC 9)=bW z:=by simp[bW,fixC]
theorem Hj (A:ax)(hA:A=aj)(x:bF)(N:Int)(n5:5<=N)(jq:N<=11)(hx:x=OW N):al 61 [.agg (mT x),.ii 0] (.aw [.agg (rV (hdL A N)),.bool true]):=by
 obtain⟨⟨a0,a2⟩,a9,a6,a1,a8,b1,a3⟩:=x;obtain⟨c0,a4,d5⟩:=nr hA ah a0;obtain⟨c9,a7,e3⟩:=nr hA bn a2;obtain⟨d8,b8,f3⟩:=nr hA cA a6;refine ak (az:=[.agg [.sl 1 c0,.sl 2 c9,.ii a9,.sl 4 d8,.ii a1,.ii a8,.ii b1,.ii a3],.ii 0]) (by subst a4 a7 b8;rfl) ?_;have k0:a0=gN N:=congrArg (λg:bF=>g.ba.aD) hx;have k1:a2=[]:=congrArg (λg:bF=>g.ba.Cache) hx;have k2:a9=N:=congrArg bF.ld hx;have k3:a6=[]:=congrArg bF.Used hx;have k4:a1=1:=congrArg bF.dZ hx;have k5:a8=1:=congrArg bF.ea hx;have k6:b1=0:=congrArg bF.fv hx;have k7:a3=1:=congrArg bF.cT hx;have lk0:(aaK a0:Int)=8+N * 8:=by rw[k0];exact DM n5
 have vd:eM ⟨a0,[]⟩:=by rw[k0];exact xH n5 jq
 have oE:eM ⟨a0,a2⟩:=by rw[k1];exact vd
 have lku:aaK a6=0:=by rw[k3];rfl
 have lfr:1<=aaK (mc a9 a6):=by rw[k2,k3];exact IF n5
 refine aY Tryz.func61 ?_;refine gx hA 3 ?_;refine gs (gr (rn hA 1 ?_));obtain⟨c2,c6,aJ⟩:=qL (aaN bq (mc a9 a6)) (vX A hA (⟨⟨a0,a2⟩,a9,a6,a1,a8,b1,a3⟩:bF) (by show aaK a6<=1048576;omega));have f7:=ab hA c6;refine aH aJ (.inr rfl) ?_ (hv:=by subst a4 a7 b8;rfl);refine rz hA 1 ?_;refine gs (gs (gr (rn hA 3 ?_)));refine ag 16 rfl (λc3=>?_) (λc3=>?_)
 ·
  exact ay c3 (by subst hA;rfl)
 refine rn hA 6 ?_;refine ag 22 rfl (λc4=>?_) (λc4=>?_)
 ·
  have du:(A.ao c2)<=0:=JK hA c4;exfalso;omega
 have du:0 < (A.ao c2):=JL hA c4;refine rz hA 4 ?_;refine gc (λc5=>?_) (λc5=>?_)
 ·
  have fu:a1=1000000000:=eE hA c5;exfalso;omega
 have fu:a1≠1000000000:=eF hA c5;refine gk (gs (gr (rn hA 3 ?_)));obtain⟨a5,d7,fq⟩:=qY (gi A (cn A) (fL A) (⟨a1,1,(aaP #[115,101,103])⟩:aC)) true (By A hA (⟨a1,1,(aaP #[115,101,103])⟩:aC) (by rw[k4];exact qg));refine aH fq (.inr rfl) ?_;refine rz hA 5 ?_;refine gs ?_;have wt:a5=C1 A:=by rw[d7,k4];rfl
 have zt:aaL a5=10:=by rw[wt];exact yS hA
 have zs:=aS hA a5;refine cR [0,1,2,3,4,5,6,7,8,11,9,10,12] (by cbv) ?_;refine cH hA 3 ?_;obtain⟨e7,g0,x8,Q0,f9⟩:=ga (mc a9 a6) 0 (by omega) (by omega);have e5:c2[(aaO 0)]? =some [.ii x8]:=by
  exact bC bq c6 Q0
 have e6:x8=0:=by
  have hq:=Q0;rw[k2,k3] at hq;exact Option.some.inj (hq.symm.trans (Fh n5))
 have f2:0 < (aaK c2:Int):=by
  rw[c6,aaS];omega
 refine dc rfl rfl (kO rfl rfl rfl rfl rfl rfl e7 f2 rfl) ?_;refine dc rfl rfl (jM rfl rfl rfl rfl e5 rfl) ?_;refine cH hA 1 ?_;obtain⟨c1,c7,b3,b5,f5⟩:=FA (aaN ah a0) (aaN aU (wr a0 (aaO (8+x8 * 8)) (aaO 0) a5)) true (wg A hA (⟨a0,a2⟩:bj) x8 0 a5 oE k1 (by omega) (by omega) (by show(16:Int)+x8 * 8<=(aaK a0:Int);omega) (by omega) (by omega));have d6:=ab hA b3;have e1:=ab hA b5;refine nc f5 (.inr rfl) ?_ (hv:=by subst a4 a7;rfl);refine cH hA 6 ?_;refine cS (by cbv) ?_;refine gs (gx hA 2 ?_);refine gc (λcZ=>?_) (λcZ=>?_)
 ·
  exact ay cZ (by subst hA;rfl)
 refine gk (gs (gr (rn hA 1 ?_)));obtain⟨d2,d4,b6,b7,b9,b4,f6⟩:=K7 (aaN ah a0) (aaN aU a2) (aaN bW a6) a9 a1 a8 b1 a3 (nM A hA (⟨⟨a0,a2⟩,a9,a6,a1,a8,b1,a3⟩:bF) (by rw[show(⟨⟨a0,a2⟩,a9,a6,a1,a8,b1,a3⟩:bF)=OW N from hx];exact UX n5 jq));have d1:=ab hA b7;have d3:=ab hA b9;have f1:=ab hA b4;refine aH f6 (.inr rfl) ?_ (hv:=by subst a4 a7 b8;rfl);refine rz hA 2 ?_;refine gs (gr (rn hA 1 ?_));obtain⟨c8,d0,b0,b2,f4⟩:=xT [.agg [.sl 1 (ar c1),.sl 2 (ar c7)]] (aaN ah (fl a0 (wr a0 (aaO (8+x8 * 8)) (aaO 0) a5))) (aaN aU ([])) (by subst b3 b5;simp only[bS,cE];exact pO A hA (⟨a0,wr a0 (aaO (8+x8 * 8)) (aaO 0) a5⟩:bj) (Cf vd (by omega) (by omega)));have e2:=ab hA b0;have e4:=ab hA b2;refine aH f4 (.inl (by simp only[fresh,cj,b0,b2,dy,ev,and_self])) ?_;refine rz hA 2 ?_;refine gs ?_;refine cR [0,1,2,3,4,5,6,7,8,9,10,11,12,13] (by cbv) ?_;refine cH hA 3 ?_;have e8:0 < (aaK c2:Int):=by
  rw[c6,aaS];omega
 refine dc rfl rfl (kO rfl rfl rfl rfl rfl rfl e7 e8 rfl) ?_;refine dc rfl rfl (jM rfl rfl rfl rfl e5 rfl) ?_;refine cH hA 6 ?_;obtain⟨Yg,f0⟩:=nm (b6++[[.ii x8,.ii a1,.ii (A.bA a5),.zc]]:RR);refine iF rfl rfl rfl rfl rfl rfl rfl (ij rfl rfl rfl rfl rfl rfl rfl rfl f0 (by cbv) (by cbv) (by cbv) rfl (by
  show(aaK b6+1) * _<=_;show(aaK b6+1) * 48<=_;rw[b4,aaS];omega) (by decide) (by decide)) ?_
 refine cH hA 2 ?_;refine cS (by cbv) ?_;refine gs ?_;obtain⟨e9,e0⟩:=nm (pc 9 Yg:RR);have d9:e9=aaN bW (a6++[(⟨x8,a1,(A.bA a5),[]⟩:bu)]):=by rw[e0,f0];exact Gd b4 IW rfl
 have f8:=ab hA d9;refine B2 [.zY 3049 9] (yl rfl e0.symm) ?_;refine rz hA 5 ?_;refine gx hA 3 ?_;refine rt (gt ?_);show _=PV.aw [.agg [.ow 1 c8,.ow 2 d0,.ii a9,.ow 4 e9,.ii (A.num .add .i64 a1 1),.ii a8,.ii b1,.ii a3],.bool true];have w1:fl a0 (wr a0 (aaO (8+x8 * 8)) (aaO 0) a5)=pb A N:=by rw[k0,wt,e6];rfl
 have w2:A.num .add .i64 a1 1=2:=by rw[k4];subst hA;rfl
 have w3:A.bA a5=10:=by omega
 simp only[b0,b2,d9,w1,w2,w3];simp only[k2,k3,k4,k5,k6,k7,e6,abv];rfl
theorem Pl (A:ax)(hA:A=aj)(g:Int)(u:ByteArray)(nv:Int)(h1:1<=nv)(h9:nv<=9)(hw:dw u=true)(hg:g=1):al 126 [.agg [.ii nv,.ii 1,.ii nv,.ii 0,.ii 1,.ii 0,.str u,.str (aaP #[105,110,98,111,120]),.str aaM],.ii g] (.aw [.agg (dM (⟨1,nv,dB A (cn A) (cF nv u)⟩:aC)),.bool true]):=by
 subst hg;have hz:=fV hw;have h0:aaM.size=0:=rfl;have h5:cG.size=5:=rfl;have hr:=uX A hA ⟨nv,cF nv u⟩ 1 (by intro q hq;simp[pw,eH,cF] at hq;rcases hq with rfl | rfl | rfl<;>omega);have hs:=mJ (A:=A) hA (iP hA) h1 h9 hw;have e:kX A (cn A) ⟨nv,cF nv u⟩ 1=true:=by unfold kX;rw[oB hs.1,Bool.and_true];exact tW h1 (by omega) hw
 have e2:oW A (cn A) ⟨nv,cF nv u⟩ 1=(⟨1,nv,dB A (cn A) (cF nv u)⟩:aC):=by unfold oW;rw[if_pos e];unfold mG;rfl
 rw[e,e2] at hr;exact hr
theorem Pm (A:ax)(hA:A=aj)(g:Int)(bd u:ByteArray)(nv:Int)(h1:1<=nv)(h9:nv<=9)(hw:dw u=true)(hg:g=1)(hbd:bd=dB A (cn A) (cF nv u)):al 110 [.agg (dM ⟨g,nv,bd⟩)] (.aw [.str (gi A (cn A) (fL A) (⟨1,nv,dB A (cn A) (cF nv u)⟩:aC)),.bool true]):=by
 subst hg;subst hbd;have hs:fN (⟨1,nv,dB A (cn A) (cF nv u)⟩:aC):=(mJ (A:=A) hA (iP hA) h1 h9 hw).1;have hr:=By A hA (⟨1,nv,dB A (cn A) (cF nv u)⟩:aC) hs;exact hr
theorem FG (A:ax)(hA:A=aj)(xs:List ae)(h:dY xs=true)(hz:∀ q∈il xs,q<=1048576):al 119 [.sl 9 (aaN aW xs)] (.bool true):=by
 have hr:=rI A hA xs (SM hz)
 rwa [h] at hr
theorem Pn (A:ax)(hA:A=aj)(f:aC)(h:fN f):al 127 [.agg (dM f)] (.ii ((hC f:Nat):Int)):=by
 have hr:=uW A hA f (by obtain⟨_,_,_,_,_,h6⟩:=h;omega);have e:vl f=((hC f:Nat):Int):=by rw[<- (oA (A:=A) (s:=fL A) (iP hA) h).2];exact(GB (fx A) f).symm
 rwa [e] at hr
theorem Po (A:ax)(hA:A=aj)(g:Int)(u:ByteArray)(nv:Int)(h1:1<=nv)(h9:nv<=9)(hw:dw u=true)(hg:g=1):al 100 [.agg [.ii nv,.ii 1,.ii nv,.ii 0,.ii 1,.ii 0,.str u,.str (aaP #[105,110,98,111,120]),.str aaM],.ii g] (.aw [.agg (dM (⟨1,nv,dB A (cn A) (cF nv u)⟩:aC)),.bool true]):=by
 subst hg;have hz:=fV hw;have h0:aaM.size=0:=rfl;have h5:cG.size=5:=rfl;have hr:=uY A hA ⟨nv,cF nv u⟩ 1 (by intro q hq;simp[pw,eH,cF] at hq;rcases hq with rfl | rfl | rfl<;>omega);have hs:=mJ (A:=A) hA (nC hA) h1 h9 hw;have e:kX A (dp A) ⟨nv,cF nv u⟩ 1=true:=by unfold kX;rw[oB hs.1,Bool.and_true];exact tW h1 (by omega) hw
 have e2:oW A (dp A) ⟨nv,cF nv u⟩ 1=(⟨1,nv,dB A (cn A) (cF nv u)⟩:aC):=by unfold oW;rw[if_pos e];unfold mG;rw[show dB A (dp A) (cF nv u)=dB A (cn A) (cF nv u) from DP hA (tJ h1 h9 hw)]
 rw[e,e2] at hr;exact hr
theorem Pp (A:ax)(hA:A=aj)(g:Int)(bd u:ByteArray)(nv:Int)(h1:1<=nv)(h9:nv<=9)(hw:dw u=true)(hg:g=1)(hbd:bd=dB A (cn A) (cF nv u)):al 84 [.agg (dM ⟨g,nv,bd⟩)] (.aw [.str (gi A (cn A) (fL A) (⟨1,nv,dB A (cn A) (cF nv u)⟩:aC)),.bool true]):=by
 subst hg;subst hbd;have hs:fN (⟨1,nv,dB A (cn A) (cF nv u)⟩:aC):=(mJ (A:=A) hA (iP hA) h1 h9 hw).1;have hr:=Bz A hA (⟨1,nv,dB A (cn A) (cF nv u)⟩:aC) hs;rw[GM hA hs] at hr;exact hr
theorem xV (A:ax)(hA:A=aj)(x:bF)(N:Int)(L:List aT)(h:gV A x N L):al 128 [.agg (mT x)] (.agg (cA (fB L))):=by
 obtain⟨⟨a2,a1⟩,c0,a3,b4,b3,b8,a6⟩:=x;obtain⟨a8,a4,c2⟩:=nr hA ah a2;obtain⟨b1,b0,c3⟩:=nr hA bn a1;obtain⟨a0,b2,c5⟩:=nr hA cA a3;refine ak (az:=[.agg [.sl 1 a8,.sl 2 b1,.ii c0,.sl 4 a0,.ii b4,.ii b3,.ii b8,.ii a6]]) (by subst a4 b0 b2;rfl) ?_;have hlog:=h;obtain⟨n5,jq,gd,l3,dk,ca,ln,sg,us,lng,lns,lsp,lnv,tx⟩:=h;have oE:eM ⟨a2,a1⟩:=dk;have ca:a1=[]:=ca;have ln:(aaK a2:Int)=8+N * 8:=ln;have sg:c0=N:=sg;have us:a3=[fB L]:=us;have lng:b4=2:=lng;have lns:b3=(aaK L:Int)+1:=lns;have lsp:b8=1:=lsp;have lnv:a6=(aaK L:Int)+1:=lnv;have uT:aaK a3=1:=by rw[us];rfl
 have lca:aaK a1=0:=by rw[ca];rfl
 have hil:=hlog.len;have hzl:=hlog.zs;have hit:bm a3=bx L:=hlog.items;have hib:aaK (bx L)=aaK L:=aaS ..;have hend:=hlog.end_;have hilx:(bm a3).length<=1048576:=hil;refine aY Tryz.func128 ?_;refine gx hA 2 ?_;refine gs (gx hA 4 ?_);refine gc (λc1=>?_) (λc1=>?_)
 ·
  have aV:(A.ao a0)=0:=eE hA c1;exfalso;omega
 have aV:(A.ao a0)≠0:=eF hA c1;refine gk (gs ?_);have wsub:A.num .sub .i64 (A.ao a0) 1=0:=by rw[dE hA (by omega) (by omega)];omega
 refine gr (rn hA 6 ?_);obtain⟨c6,d3,x2,cX,d0⟩:=ga a3 (A.num .sub .i64 (A.ao a0) 1) (by omega) (by omega);obtain⟨b9,b5,b6,a7⟩:=x2;obtain⟨a9,a5,c4⟩:=nr hA aW a7;have c8:a0[(aaO (A.num .sub .i64 (A.ao a0) 1))]? =some [.ii b9,.ii b5,.ii b6,.sl 9 a9]:=by
  subst a5;exact bC cA b2 cX
 obtain⟨b7,d1⟩:=yR us cX;have d2:b9=0:=congrArg bu.No b7;have d5:b5=1:=congrArg bu.jy b7;have d4:b6=(eg L:Int):=congrArg bu.End b7;have c7:a7=bx L:=congrArg bu.ka b7;have c9:aaK a7<=1048576:=by rw[c7];omega
 refine ee c6 c8 ?_;refine rz hA 2 ?_;refine rt (gt ?_);show _=(PV.agg [.ii b9,.ii b5,.ii b6,.sl 9 a9]);rw[<- b7,a5];rfl
def Yi (p0:RR)(p1 p2 p3 p4:Int)(p5 p6 p7:ByteArray):St:={sl:=dV++.pt 3 0 0::.aa::.sl 9 p0::.ii p1::JA,bl:=[(3,⟨.var,9,[[.ii p2,.ii p3,.ii p2,.ii p4,.ii p3,.ii p4,.str p5,.str p6,.str p7]]⟩)]}
theorem Hk (A:ax)(hA:A=aj)(x:bF)(N:Int)(L:List aT)(h:gV A x N L)(u:ByteArray)(nv:Int)(kL:L.length<=2)(hm:dN L ((L.length:Int)+1) u=true)(hnv:nv=(L.length:Int)+1):al 163 [.agg (mT x),.agg [.ii nv,.ii 1,.ii nv,.ii 0,.ii 1,.ii 0,.str u,.str (aaP #[105,110,98,111,120]),.str aaM]] (.bool true):=by
 obtain⟨⟨a3,a2⟩,c9,a1,b2,b1,b7,b0⟩:=x;obtain⟨b3,a8,d9⟩:=nr hA ah a3;obtain⟨b6,a9,e5⟩:=nr hA bn a2;obtain⟨e2,b8,f5⟩:=nr hA cA a1;refine ak (az:=[.agg [.sl 1 b3,.sl 2 b6,.ii c9,.sl 4 e2,.ii b2,.ii b1,.ii b7,.ii b0],.agg [.ii nv,.ii 1,.ii nv,.ii 0,.ii 1,.ii 0,.str u,.str (aaP #[105,110,98,111,120]),.str aaM]]) (by subst a8 a9 b8;rfl) ?_;have hlog:=h;obtain⟨n5,jq,gd,l3,dk,ca,ln,sg,us,lng,lns,lsp,lnv,tx⟩:=h;have oE:eM ⟨a3,a2⟩:=dk;have ca:a2=[]:=ca;have ln:(aaK a3:Int)=8+N * 8:=ln;have sg:c9=N:=sg;have us:a1=[fB L]:=us;have lng:b2=2:=lng;have lns:b1=(aaK L:Int)+1:=lns;have lsp:b7=1:=lsp;have lnv:b0=(aaK L:Int)+1:=lnv;have uT:aaK a1=1:=by rw[us];rfl
 have lca:aaK a2=0:=by rw[ca];rfl
 have hil:=hlog.len;have hzl:=hlog.zs;have hit:bm a1=bx L:=hlog.items;have hib:aaK (bx L)=aaK L:=aaS ..;have hend:=hlog.end_;have hilx:(bm a1).length<=1048576:=hil;refine aY Tryz.func163 ?_;refine gx hA 3 ?_;refine gs (gr (rn hA 1 ?_));obtain⟨f6,e6,aJ⟩:=qL (aaN da (bm a1)) (rL A hA (⟨⟨a3,a2⟩,c9,a1,b2,b1,b7,b0⟩:bF) hzl hil);have g3:=ab hA e6;obtain⟨ti,f1⟩:=nm (ar f6:RR);have f3:ti=aaN aW (bm a1):=by rw[f1,e6];exact kj _
 have g6:=ab hA f3;refine lL (r':=.sl 9 ti) rfl rfl (by cbv) (by subst a8 a9 b8;rfl) aJ (.inr rfl) (by subst f1;rfl) ?_;refine rz hA 1 ?_;refine gs (gx hA 1 ?_);refine af ?_;refine aF (λσ m=>∃(k:Nat) (n3:Int),σ=(Yi ti n3 nv 1 0 u (aaP #[105,110,98,111,120]) aaM)/\(n3=(k:Int)/\k<=aaK (bm a1))/\m=aaK (bm a1) - k) _ [] [3,5,6] [3] _ rfl (by cbv) ⟨0,0,rfl,?_,rfl⟩ (λσ m hI=>?_)
 ·
  exact⟨rfl,aaW _⟩
 obtain⟨k,n3,rfl,⟨hk,hkl⟩,rfl⟩:=hI;refine gs (gx hA 4 ?_);refine gc (λc4=>?_) (λc4=>?_)
 ·
  have du:n3 < (A.ao ti):=aP hA c4;refine gk (gs (af (gs ?_)));refine cz [0,1,2,3,4,5,6,7,8,9,10,11,12,13,14,15] (by cbv) ?_;refine bL hA 2 ?_;obtain⟨g2,g8,x5,CU,f9⟩:=ga (bm a1) n3 (by omega) (by omega);obtain⟨b5,⟨d7,c3,d8,d5,d1,d4,d6,d2⟩⟩:=x5;have f7:ti[(aaO n3)]? =some [.ii b5,.ii d7,.ii c3,.ii d8,.ii d5,.ii d1,.str d4,.str d6,.str d2]:=by
   exact bC aW f3 CU
  have g0:=DN gd _ (by rw[<- hit];exact f9);have g4:b5 < (aaK L:Int)+1:=g0.1;refine ob g2 f7 ?_;refine bL hA 6 ?_;refine bV 23 rfl (λc6=>?_) (λc6=>?_)
  ·
   have cp:b5=nv:=eE hA c6;exfalso;omega
  have cp:b5≠nv:=eF hA c6;refine dz hA 7 ?_;refine gc (λc7=>?_) (λc7=>?_)
  ·
   exact ay c7 (by rfl)
  refine gk (gy hA 3 ?_);refine⟨_,_,?_,by cbv,k+1,(A.num .add .i64 n3 1),rfl,?_,rfl⟩
  ·
   omega
  exact⟨by rw[au hA (by omega) (by omega)];omega,by omega⟩
 have du:(A.ao ti)<=n3:=aQ hA c4;refine aI (gE ?_);refine gx hA 4 ?_;refine rt (gt ?_);show _=(PV.bool (A.cmp .lss (A.ao ti) 200));refine congrArg PV.bool ?_;have hq:A.ao ti=(aaK L:Int):=by
  rw[show A.ao ti=(aaK (bm a1):Int) from by assumption,hit,hib]
 rw[hq];subst hA;simp[aj];omega
theorem Mq (A:ax)(hA:A=aj)(S:List ByteArray)(N:Int)(L:List aT)(u:ByteArray)(nv:Int)(h:gV A (⟨⟨S,[]⟩,N,[fB L],2,nv,1,nv⟩:bF) N L)(kL:L.length<=2)(hm:dN L ((L.length:Int)+1) u=true)(hnv:nv=(L.length:Int)+1):rY 164 [.ow 1 (aaN ah (S)),.ow 2 (aaN aU ([]:List br)),.ii N,.ow 4 (aaN bW ([fB L])),.ii 2,.ii nv,.ii 1,.ii nv] [.agg [.ii nv,.ii 1,.ii nv,.ii 0,.ii 1,.ii 0,.str u,.str (aaP #[105,110,98,111,120]),.str aaM],.ii 2] [.ow 1 (aaN ah (fl S (wr S 8 (eg L) (oy A (dW ((L.length:Int)+1) u))))),.ow 2 (aaN aU ([]:List br)),.ii N,.ow 4 (aaN bW ([fB (L++[(dW ((L.length:Int)+1) u)])])),.ii 2,.ii (nv+1),.ii 1,.ii (nv+1)] (.bool true):=by
 obtain⟨rs,hrs⟩:=nm (aaN ah (S));have lrs:=ab hA hrs;obtain⟨rc,hrc⟩:=nm (aaN aU ([]:List br));have lrc:=ab hA hrc;obtain⟨ru,hru⟩:=nm (aaN bW ([fB L]));have lru:=ab hA hru;refine yk (Mw:=[.ow 1 rs,.ow 2 rc,.ii N,.ow 4 ru,.ii 2,.ii nv,.ii 1,.ii nv]) (by subst hrs hrc hru;rfl) rfl rfl ?_;have hlog:=h;obtain⟨n5,jq,gd,l3,dk,ca,ln,sg,us,lng,lns,lsp,lnv,tx⟩:=h;have vd:eM ⟨S,[]⟩:=dk;have ln:(aaK S:Int)=8+N * 8:=ln;have hib:aaK (bx L)=aaK L:=aaS ..;have hend:=hlog.end_;have hL:=uR gd;obtain⟨ri,hri⟩:=nm (aaN da (bx L):RR);obtain⟨eN,Ru⟩:=nm ((eg L:Int):Int);have Yh:ru=[[.ii 0,.ii 1,.ii eN,.ow 9 ri]]:=by rw[hru,Ru,hri];rfl
 subst Yh;obtain⟨re,hre⟩:=nm (ar ri:RR);have here:re=aaN aW (bx L):=by rw[hre,hri];exact kj _
 have lre:=ab hA here;have wix:A.num .sub .i64 (A.ao [[.ii 0,.ii 1,.ii eN,.sl 9 re]]) 1=((0:Nat):Int):=by subst hA;rfl
 have hw:=mH hm;have qR:=fV hw;have hns:fN (⟨1,nv,dB A (cn A) (cF nv u)⟩:aC)/\hC (⟨1,nv,dB A (cn A) (cF nv u)⟩:aC)=20+u.size:=mJ hA (iP hA) (by omega) (by omega) hw;have hzb:(oy A (dW ((L.length:Int)+1) u)).size=20+u.size:=Bk hA (by omega) hm;refine EI nQ Tryz.func164 (by kernel_rfl) (uk rfl (by cbv) (by cbv) (λhv=>?_));refine gs (gB (rn hA 2 ?_));refine bY (tw:=[.Mt 1000004000]) (PH (dI:=[[.ii 0,.ii 1,.ii eN,.sl 9 re]]) rfl (by rw[hre];rfl)) ?_;refine gs ?_;refine cR [0,1,2,3,4,5,6,7,8,9,10,11,12,13] (by cbv) ?_;refine cH hA 10 ?_;refine dc rfl rfl (Dm (m:=0) rfl rfl rfl rfl rfl rfl wix rfl rfl) ?_;refine cH hA 3 ?_;refine cS (by cbv) ?_;refine gs (gr (rn hA 3 ?_));obtain⟨d3,c1,c2,b9,aJ⟩:=Uj 1 (dB A (cn A) (cF nv u)) nv true (Po A hA 1 u nv (by omega) (by omega) hw rfl);refine aH aJ (.inr rfl) ?_;refine rz hA 6 ?_;refine gs (gr (rn hA 1 ?_));obtain⟨a0,d0,cL⟩:=S0 (Pp A hA d3 c1 u nv (by omega) (by omega) hw c2 b9);refine aH cL (.inr rfl) ?_;refine rz hA 5 ?_;refine gs (gs ?_);have zt:aaL a0=20+u.size:=by rw[d0,hnv];exact hzb
 have zs:=aS hA a0;refine gr (rn hA 3 ?_);refine ag 40 rfl (λc5=>?_) (λc5=>?_)
 ·
  exact ay c5 (by subst hA;rfl)
 refine rn hA 4 ?_;refine ag 44 rfl (λc6=>?_) (λc6=>?_)
 ·
  exact ay c6 (by subst hA;rfl)
 refine rz hA 4 ?_;refine gc (λc7=>?_) (λc7=>?_)
 ·
  have jx:1000000000<=nv:=qy hA c7;exfalso;omega
 have jx:nv < 1000000000:=qz hA c7;refine gk (gs (gx hA 6 ?_));refine gc (λc8=>?_) (λc8=>?_)
 ·
  have gz:256 < (A.num .add .i64 eN (A.bA a0)):=dJ hA c8;exfalso;rw[au hA (by omega) (by omega)] at gz;omega
 have gz:(A.num .add .i64 eN (A.bA a0))<=256:=dL hA c8;refine gk (gs ?_);refine cR [0,1,2,3,4,5,6,7,8,9,10,11,14,12,13,15] (by cbv) ?_;refine cH hA 9 ?_;obtain⟨b4,c0,a5,a6,g1⟩:=uZ [.agg [.sl 1 (ar rs),.sl 2 (ar rc)],.ii 0,.ii eN,.str a0] (aaN ah (S)) (aaN aU (wr (S) (aaO (8+0 * 8)) (aaO eN) a0)) true (by subst hrs hrc;simp only[bS,cE];exact wj A hA (⟨(S),([]:List br)⟩:bj) 0 eN a0 vd rfl (by decide) (by decide) (by show(16:Int)+0 * 8<=(aaK S:Int);omega) (by omega) (by omega));have e3:=ab hA a5;have e7:=ab hA a6;refine nc g1 (.inl (by simp only[fresh,cj,a5,a6,dy,ev,and_self])) ?_;refine cH hA 6 ?_;refine cS (by cbv) ?_;refine gs (gx hA 2 ?_);refine gc (λcf=>?_) (λcf=>?_)
 ·
  exact ay cf (by subst hA;rfl)
 refine gk (gs (gr (rn hA 2 ?_)));obtain⟨e4,e9,a4,a7,f8⟩:=xT [.agg [.sl 1 (ar b4),.sl 2 (ar c0)]] (aaN ah (fl (S) (wr (S) (aaO (8+0 * 8)) (aaO eN) a0))) (aaN aU ([])) (by subst a5 a6;simp only[bS,cE];exact pP A hA (⟨(S),wr (S) (aaO (8+0 * 8)) (aaO eN) a0⟩:bj) (Cf vd (by omega) (by omega)));have e0:=ab hA a4;have e8:=ab hA a7;refine aH f8 (.inl (by simp only[fresh,cj,a4,a7,dy,ev,and_self])) ?_;refine rz hA 3 ?_;refine gx hA 7 ?_;refine gs ?_;refine cR [0,1,2,3,4,5,6,7,8] (by cbv) ?_;refine cH hA 3 ?_;obtain⟨Us,f2⟩:=nm (([])++re:RR);have e1:Us=aaN da (([])++(bx L)):=by rw[f2];exact cM rfl here
 have g7:=ab hA e1;refine iF rfl rfl rfl rfl rfl rfl rfl (ij rfl rfl rfl rfl rfl rfl rfl rfl f2 (by cbv) (by cbv) (by cbv) rfl (by
  show(aaK ([])+aaK re) * _<=_;show(0+aaK re) * 96<=_;rw[here,aaS];omega) (by decide) (by decide)) ?_
 refine cH hA 2 ?_;obtain⟨M9,f4⟩:=nm (Us++[[.ii nv,.ii 1,.ii nv,.ii 0,.ii 1,.ii 0,.str u,.str (aaP #[105,110,98,111,120]),.str aaM]]:RR);have f0:M9=aaN da (([]++(bx L))++([(⟨nv,⟨1,nv,0,1,0,u,(aaP #[105,110,98,111,120]),aaM⟩⟩:ae)])):=by rw[f4];exact cM e1 (by rfl)
 have g5:=ab hA f0;refine iF rfl rfl rfl rfl rfl rfl rfl (ij rfl rfl rfl rfl rfl rfl rfl rfl f4 (by cbv) (by cbv) (by cbv) rfl (by
  show(aaK Us+aaK ([[.ii nv,.ii 1,.ii nv,.ii 0,.ii 1,.ii 0,.str u,.str (aaP #[105,110,98,111,120]),.str aaM]])) * _<=_;show(aaK Us+1) * 96<=_;rw[e1,aaS,List.length_append];simp only[List.length_nil];omega) (by decide) (by decide)) ?_
 refine cH hA 2 ?_;refine cS (by cbv) ?_;refine gs ?_;refine cR [0,1,2,3,4,5,6,7,8,9,10,11,12] (by cbv) ?_;refine cH hA 11 ?_;refine dc rfl rfl (Dm (m:=0) rfl rfl rfl rfl rfl rfl wix rfl rfl) ?_;refine Kt rfl rfl ⟨_,_,rfl⟩ rfl (ik (dI:=[[.ii 0,.ii 1,.ii (A.num .add .i64 eN (A.bA a0)),.ow 9 M9]]) rfl rfl rfl rfl rfl ⟨_,_,rfl⟩ rfl rfl rfl rfl rfl) ?_;refine cS (by cbv) ?_;refine gs (gs ?_);refine cz [0,1,2,3,4,5,6] (by cbv) ?_;refine dz hA 7 ?_;refine gc (λiA=>?_) (λiA=>?_)
 ·
  refine gy hA 7 ?_;refine gs (gs ?_);refine cz [0,1,2,3,4,5,6,7] (by cbv) ?_;refine dz hA 8 ?_;refine gc (λgG=>?_) (λgG=>?_)
  ·
   refine gy hA 8 ?_;refine gx hA 1 ?_;refine kT (xh rfl rfl (by cbv) rfl (by cbv) ?_ ?_)
   ·
    subst hnv;have w0:eg (L++[(dW ((L.length:Int)+1) u)])=eg L+(20+u.size):=DL L _;have w1:A.num .add .i64 eN (A.bA a0)=((eg (L++[(dW ((L.length:Int)+1) u)]):Nat):Int):=by rw[au hA (by omega) (by omega),w0,zs];omega
    have w2:[[.ii 0,.ii 1,.ii (A.num .add .i64 eN (A.bA a0)),.ow 9 M9]]=aaN bW [fB (L++[(dW ((L.length:Int)+1) u)])]:=by
     rw[w1,f0];show _=([[.ii 0,.ii 1,.ii ((eg (L++[(dW ((L.length:Int)+1) u)]):Nat):Int),.ow 9 (aaN da (bx (L++[(dW ((L.length:Int)+1) u)])))]]:RR);rw[show bx (L++[(dW ((L.length:Int)+1) u)])=bx L++[mI (dW ((L.length:Int)+1) u)] from abQ ..]
     try rw[abv]
     rfl
    have w3:A.num .add .i64 ((L.length:Int)+1) 1=(L.length:Int)+1+1:=by rw[au hA (by omega) (by omega)]
    have w5:fl S (wr S (aaO (8+0 * 8)) (aaO eN) a0)=fl S (wr S 8 (eg L) (oy A (dW ((L.length:Int)+1) u))):=by rw[d0,Ru,Int.toNat_natCast];rfl
    rw[w2];simp only[a4,a7,w3,w5]
   rfl
  exact cu gG (by subst hA;simp[aj])
 exact cu iA (by subst hA;simp[aj])
end Go.Av

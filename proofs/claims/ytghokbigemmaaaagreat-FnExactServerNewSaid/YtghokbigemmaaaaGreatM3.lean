/- Lemmas and walks for FnExactServerNew: what each function of the program and of the reference comes to. -/
import Derived.Test.YtghokbigemmaaaaGreatJ1
open List renaming length→aaK,map→aaN,length_map→aaS,take_of_length_le→aaU,mem_append→aaV,mem_cons_of_mem→aaX,length_append→aaY,length_take→aa1,length_cons→aa5,take_add_one→aa6,getElem?_eq_getElem→aa7,mem_flatMap→abf,drop_of_length_le→abk,append_nil→abm,length_drop→abo,cons_append→abt,cons→abC,take_append_drop→abH,getElem?_cons_zero→ab3,singleton_append→aca,take_succ_cons→acj,getElem?_cons_succ→acz
open ByteArray renaming size→aaL,mk→aaP,size_append→aaT
open Int renaming toNat→aaO,toNat_natCast→abb,tdiv_eq_ediv_of_nonneg→abF
open Option renaming some→aaQ,toList_some→abT
open Nat renaming zero_le→aaW
open Eq renaming trans→acv
namespace Go.Av
open Go Go.Proofs
set_option maxRecDepth 100000
set_option maxHeartbeats 4000000
set_option linter.unusedVariables false
set_option linter.unusedSimpArgs false
def aaG (p0:RR)(p1:Int):St:={sl:=.sl 1 p0::.sl 1 p0::dV++.ii p1::rP,bl:=[]}
theorem uP (A:ax)(hA:A=aj)(xs:List ByteArray)(hk:∀ k∈bR xs,(k:Int)<=4611686018427387904):al 9 [.sl 1 (aaN ah xs),.sl 1 (aaN ah xs)] (.bool true):=by
 obtain⟨a0,a8,i6⟩:=nr hA ah xs;refine ak (az:=[.sl 1 a0,.sl 1 a0]) (by subst a8;rfl) ?_;have hlen:(aaK xs:Int)<=4611686018427387904:=hk _ (by simp[bR]);refine aY Tryz.func9 ?_;refine gx hA 1 ?_;refine gs (gx hA 5 ?_);refine gc (λc1=>?_) (λc1=>?_)
 ·
  exact ay c1 (by subst hA;simp[aj])
 refine gk (gs (gx hA 1 ?_));refine af ?_;refine aF (λσ m=>∃(i:Nat) (n5:Int),σ=(aaG a0 n5)/\(n5=(i:Int)/\i<=aaK xs)/\m=aaK xs - i) _ [] [0,1,5] [] _ rfl (by cbv) ⟨0,0,rfl,?_,rfl⟩ (λσ m hI=>?_)
 ·
  exact⟨rfl,aaW _⟩
 obtain⟨i,n5,rfl,⟨jY,hi⟩,rfl⟩:=hI;refine gs (gx hA 4 ?_);refine gc (λc2=>?_) (λc2=>?_)
 ·
  have iY:n5 < (A.ao a0):=aP hA c2;refine gk (gs (af (gs ?_)));refine cz [0,1,2,3,4,5,6,7,8] (by cbv) ?_;refine bL hA 2 ?_;obtain⟨f5,m9,x3,tc,k5⟩:=ga xs n5 (by omega) (by omega);have f7:a0[(aaO n5)]? =some [.str x3]:=by
   exact bC ah a8 tc
  refine ob f5 f7 ?_;refine bL hA 3 ?_;refine ob f5 f7 ?_;refine dz hA 2 ?_;refine gc (λc4=>?_) (λc4=>?_)
  ·
   exact ay c4 (by subst hA;simp[aj])
  refine gk (gy hA 3 ?_);refine⟨_,_,?_,by cbv,i+1,(A.num .add .i64 n5 1),rfl,?_,rfl⟩
  ·
   omega
  exact⟨by rw[au hA (by omega) (by omega)];omega,by omega⟩
 have iY:(A.ao a0)<=n5:=aQ hA c2;refine aI (gE ?_);refine gx hA 1 ?_;refine rt (gt ?_);show _=(PV.bool true);rfl
def YF (p0:RR)(p1:Int):St:={sl:=.sl 2 p0::.sl 2 p0::dV++.ii p1::nE,bl:=[]}
theorem FZ (A:ax)(hA:A=aj)(xs:List br)(hk:∀ k∈dX xs,(k:Int)<=4611686018427387904)(vx:aaK xs=0):al 134 [.sl 2 (aaN bn xs),.sl 2 (aaN bn xs)] (.bool true):=by
 obtain⟨a0,a8,i6⟩:=nr hA bn xs;refine ak (az:=[.sl 2 a0,.sl 2 a0]) (by subst a8;rfl) ?_;have hlen:(aaK xs:Int)<=4611686018427387904:=hk _ (by simp[dX]);refine aY Tryz.func134 ?_;refine gx hA 1 ?_;refine gs (gx hA 5 ?_);refine gc (λc1=>?_) (λc1=>?_)
 ·
  exact ay c1 (by subst hA;simp[aj])
 refine gk (gs (gx hA 1 ?_));refine af ?_;refine aF (λσ m=>∃(i:Nat) (n5:Int),σ=(YF a0 n5)/\(n5=(i:Int)/\i<=aaK xs)/\m=aaK xs - i) _ [] [0,1,5] [] _ rfl (by cbv) ⟨0,0,rfl,?_,rfl⟩ (λσ m hI=>?_)
 ·
  exact⟨rfl,aaW _⟩
 obtain⟨i,n5,rfl,⟨jY,hi⟩,rfl⟩:=hI;refine gs (gx hA 4 ?_);refine gc (λc2=>?_) (λc2=>?_)
 ·
  have iY:n5 < (A.ao a0):=aP hA c2;omega
 have iY:(A.ao a0)<=n5:=aQ hA c2;refine aI (gE ?_);refine gx hA 1 ?_;refine rt (gt ?_);show _=(PV.bool true);rfl
theorem Jt (A:ax)(hA:A=aj)(x:bj)(hk:∀ k∈db x,(k:Int)<=4611686018427387904)(ja:aaK x.Cache=0):al 73 [.agg (gf x),.agg (gf x)] (.bool true):=by
 obtain⟨j1,i8⟩:=x;obtain⟨g4,g2,n0⟩:=nr hA ah j1;obtain⟨j6,i4,n3⟩:=nr hA bn i8;refine ak (az:=[.agg [.sl 1 g4,.sl 2 j6],.agg [.sl 1 g4,.sl 2 j6]]) (by subst g2 i4;rfl) ?_;have ja:aaK i8=0:=ja;refine aY Tryz.func73 ?_;refine gx hA 3 ?_;refine gs (gs (gr (rn hA 4 ?_)));have aJ:=uP A hA j1 (λk h=>hk k (by simp only[db,aaV];simp only[h,true_or,or_true]));refine aH aJ (.inr rfl) ?_ (hv:=by subst g2;rfl);refine rz hA 1 ?_;refine gc (λc3=>?_) (λc3=>?_)
 ·
  exact ay c3 (by subst hA;rfl)
 refine gk (gs (gs (gr (rn hA 4 ?_))));have eu:=FZ A hA i8 (λk h=>hk k (by simp only[db,aaV];simp only[h,true_or,or_true])) (by omega);refine aH eu (.inr rfl) ?_ (hv:=by subst i4;rfl);refine rz hA 1 ?_;refine gc (λc6=>?_) (λc6=>?_)
 ·
  exact ay c6 (by subst hA;rfl)
 refine gk (gx hA 1 ?_);refine rt (gt ?_);show _=(PV.bool true);rfl
theorem L6 (A:ax)(hA:A=aj)(x:aE)(hk:∀ k∈eH x,(k:Int)<=4611686018427387904):al 304 [.agg (gY x),.agg (gY x)] (.bool true):=by
 obtain⟨l4,k2,m4,l1,k1,l0,l6,l2⟩:=x;refine ak (az:=[.agg [.ii l4,.ii k2,.ii m4,.ii l1,.ii k1,.str l0,.str l6,.str l2],.agg [.ii l4,.ii k2,.ii m4,.ii l1,.ii k1,.str l0,.str l6,.str l2]]) (by rfl) ?_;refine aY Tryz.func304 ?_;refine gx hA 3 ?_;refine gs (gx hA 5 ?_);refine gc (λc1=>?_) (λc1=>?_)
 ·
  exact ay c1 (by subst hA;simp[aj])
 refine gk (gs (gx hA 5 ?_));refine gc (λc2=>?_) (λc2=>?_)
 ·
  exact ay c2 (by subst hA;simp[aj])
 refine gk (gs (gx hA 5 ?_));refine gc (λc3=>?_) (λc3=>?_)
 ·
  exact ay c3 (by subst hA;simp[aj])
 refine gk (gs (gx hA 5 ?_));refine gc (λc4=>?_) (λc4=>?_)
 ·
  exact ay c4 (by subst hA;simp[aj])
 refine gk (gs (gx hA 5 ?_));refine gc (λc5=>?_) (λc5=>?_)
 ·
  exact ay c5 (by subst hA;simp[aj])
 refine gk (gs (gx hA 5 ?_));refine gc (λc6=>?_) (λc6=>?_)
 ·
  exact ay c6 (by subst hA;simp[aj])
 refine gk (gs (gx hA 5 ?_));refine gc (λc7=>?_) (λc7=>?_)
 ·
  exact ay c7 (by subst hA;simp[aj])
 refine gk (gs (gx hA 5 ?_));refine gc (λc8=>?_) (λc8=>?_)
 ·
  exact ay c8 (by subst hA;simp[aj])
 refine gk (gx hA 1 ?_);refine rt (gt ?_);show _=(PV.bool true);rfl
theorem Ju (A:ax)(hA:A=aj)(x:ae)(hk:∀ k∈pw x,(k:Int)<=4611686018427387904):al 266 [.agg (aW x),.agg (aW x)] (.bool true):=by
 obtain⟨m3,⟨f1,e2,f8,f2,e1,e6,f0,e7⟩⟩:=x;refine ak (az:=[.agg [.ii m3,.ii f1,.ii e2,.ii f8,.ii f2,.ii e1,.str e6,.str f0,.str e7],.agg [.ii m3,.ii f1,.ii e2,.ii f8,.ii f2,.ii e1,.str e6,.str f0,.str e7]]) (by rfl) ?_;refine aY Tryz.func266 ?_;refine gx hA 3 ?_;refine gs (gx hA 5 ?_);refine gc (λc1=>?_) (λc1=>?_)
 ·
  exact ay c1 (by subst hA;simp[aj])
 refine gk (gs (gs (gr (rn hA 4 ?_))));have mi:=L6 A hA (⟨f1,e2,f8,f2,e1,e6,f0,e7⟩:aE) (λk h=>hk k (by simp only[pw,aaV];simp only[h,true_or,or_true]));refine aH mi (.inr rfl) ?_;refine rz hA 1 ?_;refine gc (λc4=>?_) (λc4=>?_)
 ·
  exact ay c4 (by subst hA;rfl)
 refine gk (gx hA 1 ?_);refine rt (gt ?_);show _=(PV.bool true);rfl
def YG (p0:RR)(p1:Int):St:={sl:=.sl 9 p0::.sl 9 p0::dV++.ii p1::nE,bl:=[]}
theorem Hq (A:ax)(hA:A=aj)(xs:List ae)(hk:∀ k∈il xs,(k:Int)<=4611686018427387904):al 223 [.sl 9 (aaN aW xs),.sl 9 (aaN aW xs)] (.bool true):=by
 obtain⟨a0,a8,i6⟩:=nr hA aW xs;refine ak (az:=[.sl 9 a0,.sl 9 a0]) (by subst a8;rfl) ?_;have hlen:(aaK xs:Int)<=4611686018427387904:=hk _ (by simp[il]);refine aY Tryz.func223 ?_;refine gx hA 1 ?_;refine gs (gx hA 5 ?_);refine gc (λc1=>?_) (λc1=>?_)
 ·
  exact ay c1 (by subst hA;simp[aj])
 refine gk (gs (gx hA 1 ?_));refine af ?_;refine aF (λσ m=>∃(i:Nat) (n5:Int),σ=(YG a0 n5)/\(n5=(i:Int)/\i<=aaK xs)/\m=aaK xs - i) _ [] [0,1,5] [] _ rfl (by cbv) ⟨0,0,rfl,?_,rfl⟩ (λσ m hI=>?_)
 ·
  exact⟨rfl,aaW _⟩
 obtain⟨i,n5,rfl,⟨jY,hi⟩,rfl⟩:=hI;refine gs (gx hA 4 ?_);refine gc (λc2=>?_) (λc2=>?_)
 ·
  have iY:n5 < (A.ao a0):=aP hA c2;refine gk (gs (af (gs ?_)));refine cz [0,1,2,3,4,5,6,7,8,9] (by cbv) ?_;refine bL hA 2 ?_;obtain⟨f5,m9,x3,tc,k5⟩:=ga xs n5 (by omega) (by omega);obtain⟨l3,⟨g9,g0,i5,i0,g1,g5,g3,g8⟩⟩:=x3;have f7:a0[(aaO n5)]? =some [.ii l3,.ii g9,.ii g0,.ii i5,.ii i0,.ii g1,.str g5,.str g3,.str g8]:=by
   exact bC aW a8 tc
  have hkx:=fun(k:Nat) h=>hk k (aaX _ (abf.2 ⟨_,k5,h⟩));refine ob f5 f7 ?_;refine bL hA 3 ?_;refine ob f5 f7 ?_;refine bL hA 1 ?_;have eu:=Ju A hA (⟨l3,⟨g9,g0,i5,i0,g1,g5,g3,g8⟩⟩:ae) hkx;refine eQ eu (.inr rfl) ?_;refine dz hA 1 ?_;refine gc (λc6=>?_) (λc6=>?_)
  ·
   exact ay c6 (by subst hA;rfl)
  refine gk (gy hA 3 ?_);refine⟨_,_,?_,by cbv,i+1,(A.num .add .i64 n5 1),rfl,?_,rfl⟩
  ·
   omega
  exact⟨by rw[au hA (by omega) (by omega)];omega,by omega⟩
 have iY:(A.ao a0)<=n5:=aQ hA c2;refine aI (gE ?_);refine gx hA 1 ?_;refine rt (gt ?_);show _=(PV.bool true);rfl
theorem L7 (A:ax)(hA:A=aj)(x:bu)(hk:∀ k∈yJ x,(k:Int)<=4611686018427387904):al 135 [.agg (cA x),.agg (cA x)] (.bool true):=by
 obtain⟨n1,m2,m1,k4⟩:=x;obtain⟨j2,i1,n6⟩:=nr hA aW k4;refine ak (az:=[.agg [.ii n1,.ii m2,.ii m1,.sl 9 j2],.agg [.ii n1,.ii m2,.ii m1,.sl 9 j2]]) (by subst i1;rfl) ?_;refine aY Tryz.func135 ?_;refine gx hA 3 ?_;refine gs (gx hA 5 ?_);refine gc (λc1=>?_) (λc1=>?_)
 ·
  exact ay c1 (by subst hA;simp[aj])
 refine gk (gs (gx hA 5 ?_));refine gc (λc2=>?_) (λc2=>?_)
 ·
  exact ay c2 (by subst hA;simp[aj])
 refine gk (gs (gx hA 5 ?_));refine gc (λc3=>?_) (λc3=>?_)
 ·
  exact ay c3 (by subst hA;simp[aj])
 refine gk (gs (gs (gr (rn hA 4 ?_))));have eu:=Hq A hA k4 (λk h=>hk k (by simp only[yJ,aaV];simp only[h,true_or,or_true]));refine aH eu (.inr rfl) ?_ (hv:=by subst i1;rfl);refine rz hA 1 ?_;refine gc (λc6=>?_) (λc6=>?_)
 ·
  exact ay c6 (by subst hA;rfl)
 refine gk (gx hA 1 ?_);refine rt (gt ?_);show _=(PV.bool true);rfl
def ZR (p0:RR)(p1:Int):St:={sl:=.sl 4 p0::.sl 4 p0::dV++.ii p1::nE,bl:=[]}
theorem Jv (A:ax)(hA:A=aj)(xs:List bu)(hk:∀ k∈gl xs,(k:Int)<=4611686018427387904):al 74 [.sl 4 (aaN cA xs),.sl 4 (aaN cA xs)] (.bool true):=by
 obtain⟨a0,a8,i6⟩:=nr hA cA xs;refine ak (az:=[.sl 4 a0,.sl 4 a0]) (by subst a8;rfl) ?_;have hlen:(aaK xs:Int)<=4611686018427387904:=hk _ (by simp[gl]);refine aY Tryz.func74 ?_;refine gx hA 1 ?_;refine gs (gx hA 5 ?_);refine gc (λc1=>?_) (λc1=>?_)
 ·
  exact ay c1 (by subst hA;simp[aj])
 refine gk (gs (gx hA 1 ?_));refine af ?_;refine aF (λσ m=>∃(i:Nat) (n5:Int),σ=(ZR a0 n5)/\(n5=(i:Int)/\i<=aaK xs)/\m=aaK xs - i) _ [] [0,1,5] [] _ rfl (by cbv) ⟨0,0,rfl,?_,rfl⟩ (λσ m hI=>?_)
 ·
  exact⟨rfl,aaW _⟩
 obtain⟨i,n5,rfl,⟨jY,hi⟩,rfl⟩:=hI;refine gs (gx hA 4 ?_);refine gc (λc2=>?_) (λc2=>?_)
 ·
  have iY:n5 < (A.ao a0):=aP hA c2;refine gk (gs (af (gs ?_)));refine cz [0,1,2,3,4,5,6,7,8,9] (by cbv) ?_;refine bL hA 2 ?_;obtain⟨f5,m9,x3,tc,k5⟩:=ga xs n5 (by omega) (by omega);obtain⟨m6,l7,l5,j8⟩:=x3;obtain⟨k6,g7,n2⟩:=nr hA aW j8;have f7:a0[(aaO n5)]? =some [.ii m6,.ii l7,.ii l5,.sl 9 k6]:=by
   subst g7;exact bC cA a8 tc
  have hkx:=fun(k:Nat) h=>hk k (aaX _ (abf.2 ⟨_,k5,h⟩));refine ob f5 f7 ?_;refine bL hA 3 ?_;refine ob f5 f7 ?_;refine bL hA 1 ?_;have eu:=L7 A hA (⟨m6,l7,l5,j8⟩:bu) hkx;refine eQ eu (.inr rfl) ?_ (hv:=by subst g7;rfl);refine dz hA 1 ?_;refine gc (λc6=>?_) (λc6=>?_)
  ·
   exact ay c6 (by subst hA;rfl)
  refine gk (gy hA 3 ?_);refine⟨_,_,?_,by cbv,i+1,(A.num .add .i64 n5 1),rfl,?_,rfl⟩
  ·
   omega
  exact⟨by rw[au hA (by omega) (by omega)];omega,by omega⟩
 have iY:(A.ao a0)<=n5:=aQ hA c2;refine aI (gE ?_);refine gx hA 1 ?_;refine rt (gt ?_);show _=(PV.bool true);rfl
theorem L8 (A:ax)(hA:A=aj)(x:bF)(hk:∀ k∈fg x,(k:Int)<=4611686018427387904)(ja:aaK x.ba.Cache=0):al 34 [.agg (mT x),.agg (mT x)] (.bool true):=by
 obtain⟨⟨e4,d7⟩,l8,k9,j4,j3,k3,g6⟩:=x;obtain⟨d5,d4,l9⟩:=nr hA ah e4;obtain⟨e5,e0,m5⟩:=nr hA bn d7;obtain⟨j9,i9,n7⟩:=nr hA cA k9;refine ak (az:=[.agg [.sl 1 d5,.sl 2 e5,.ii l8,.sl 4 j9,.ii j4,.ii j3,.ii k3,.ii g6],.agg [.sl 1 d5,.sl 2 e5,.ii l8,.sl 4 j9,.ii j4,.ii j3,.ii k3,.ii g6]]) (by subst d4 e0 i9;rfl) ?_;have ja:aaK d7=0:=ja;refine aY Tryz.func34 ?_;refine gx hA 3 ?_;refine gs (gs (gr (rn hA 4 ?_)));have aJ:=Jt A hA (⟨e4,d7⟩:bj) (λk h=>hk k (by simp only[fg,aaV];simp only[h,true_or,or_true])) (by omega);refine aH aJ (.inr rfl) ?_ (hv:=by subst d4 e0;rfl);refine rz hA 1 ?_;refine gc (λc3=>?_) (λc3=>?_)
 ·
  exact ay c3 (by subst hA;rfl)
 refine gk (gs (gx hA 5 ?_));refine gc (λc4=>?_) (λc4=>?_)
 ·
  exact ay c4 (by subst hA;simp[aj])
 refine gk (gs (gs (gr (rn hA 4 ?_))));have kU:=Jv A hA k9 (λk h=>hk k (by simp only[fg,aaV];simp only[h,true_or,or_true]));refine aH kU (.inr rfl) ?_ (hv:=by subst i9;rfl);refine rz hA 1 ?_;refine gc (λc7=>?_) (λc7=>?_)
 ·
  exact ay c7 (by subst hA;rfl)
 refine gk (gs (gx hA 5 ?_));refine gc (λc8=>?_) (λc8=>?_)
 ·
  exact ay c8 (by subst hA;simp[aj])
 refine gk (gs (gx hA 5 ?_));refine gc (λc9=>?_) (λc9=>?_)
 ·
  exact ay c9 (by subst hA;simp[aj])
 refine gk (gs (gx hA 5 ?_));refine gc (λcB=>?_) (λcB=>?_)
 ·
  exact ay cB (by subst hA;simp[aj])
 refine gk (gs (gx hA 5 ?_));refine gc (λcf=>?_) (λcf=>?_)
 ·
  exact ay cf (by subst hA;simp[aj])
 refine gk (gx hA 1 ?_);refine rt (gt ?_);show _=(PV.bool true);rfl
def ZS (p0:RR)(p1:Int):St:={sl:=.sl 1 p0::.sl 1 p0::dV++.ii p1::rP,bl:=[]}
theorem Jw (A:ax)(hA:A=aj)(xs:List Int)(hk:∀ k∈jS xs,(k:Int)<=4611686018427387904)(vx:aaK xs=0):al 35 [.sl 1 (aaN bq xs),.sl 1 (aaN bq xs)] (.bool true):=by
 obtain⟨a0,a8,i6⟩:=nr hA bq xs;refine ak (az:=[.sl 1 a0,.sl 1 a0]) (by subst a8;rfl) ?_;have hlen:(aaK xs:Int)<=4611686018427387904:=hk _ (by simp[jS]);refine aY Tryz.func35 ?_;refine gx hA 1 ?_;refine gs (gx hA 5 ?_);refine gc (λc1=>?_) (λc1=>?_)
 ·
  exact ay c1 (by subst hA;simp[aj])
 refine gk (gs (gx hA 1 ?_));refine af ?_;refine aF (λσ m=>∃(i:Nat) (n5:Int),σ=(ZS a0 n5)/\(n5=(i:Int)/\i<=aaK xs)/\m=aaK xs - i) _ [] [0,1,5] [] _ rfl (by cbv) ⟨0,0,rfl,?_,rfl⟩ (λσ m hI=>?_)
 ·
  exact⟨rfl,aaW _⟩
 obtain⟨i,n5,rfl,⟨jY,hi⟩,rfl⟩:=hI;refine gs (gx hA 4 ?_);refine gc (λc2=>?_) (λc2=>?_)
 ·
  have iY:n5 < (A.ao a0):=aP hA c2;omega
 have iY:(A.ao a0)<=n5:=aQ hA c2;refine aI (gE ?_);refine gx hA 1 ?_;refine rt (gt ?_);show _=(PV.bool true);rfl
theorem Hr (A:ax)(hA:A=aj)(x:aK)(hk:∀ k∈fK x,(k:Int)<=4611686018427387904)(ja:aaK x.Log.ba.Cache=0)(nX:aaK x.cW=0):al 17 [.agg (iv x),.agg (iv x)] (.bool true):=by
 obtain⟨⟨⟨b9,b2⟩,e8,i3,d2,d3,e3,b5⟩,i7⟩:=x;obtain⟨b6,b4,k0⟩:=nr hA ah b9;obtain⟨c0,b8,k7⟩:=nr hA bn b2;obtain⟨f9,f3,m7⟩:=nr hA cA i3;obtain⟨j0,i2,n4⟩:=nr hA bq i7;refine ak (az:=[.agg [.sl 1 b6,.sl 2 c0,.ii e8,.sl 4 f9,.ii d2,.ii d3,.ii e3,.ii b5,.sl 1 j0],.agg [.sl 1 b6,.sl 2 c0,.ii e8,.sl 4 f9,.ii d2,.ii d3,.ii e3,.ii b5,.sl 1 j0]]) (by subst b4 b8 f3 i2;rfl) ?_;have ja:aaK b2=0:=ja;have nX:aaK i7=0:=nX;refine aY Tryz.func17 ?_;refine gx hA 3 ?_;refine gs (gs (gr (rn hA 4 ?_)));have aJ:=L8 A hA (⟨⟨b9,b2⟩,e8,i3,d2,d3,e3,b5⟩:bF) (λk h=>hk k (by simp only[fK,aaV];simp only[h,true_or,or_true])) (by omega);refine aH aJ (.inr rfl) ?_ (hv:=by subst b4 b8 f3;rfl);refine rz hA 1 ?_;refine gc (λc3=>?_) (λc3=>?_)
 ·
  exact ay c3 (by subst hA;rfl)
 refine gk (gs (gs (gr (rn hA 4 ?_))));have eu:=Jw A hA i7 (λk h=>hk k (by simp only[fK,aaV];simp only[h,true_or,or_true])) (by omega);refine aH eu (.inr rfl) ?_ (hv:=by subst i2;rfl);refine rz hA 1 ?_;refine gc (λc6=>?_) (λc6=>?_)
 ·
  exact ay c6 (by subst hA;rfl)
 refine gk (gx hA 1 ?_);refine rt (gt ?_);show _=(PV.bool true);rfl
def ZT (p0:RR)(p1:Int):St:={sl:=.sl 17 p0::.sl 17 p0::dV++.ii p1::nE,bl:=[]}
theorem Cz (A:ax)(hA:A=aj)(xs:List fi)(hk:∀ k∈qT xs,(k:Int)<=4611686018427387904)(vx:aaK xs=0):al 18 [.sl 17 (aaN kZ xs),.sl 17 (aaN kZ xs)] (.bool true):=by
 obtain⟨a0,a8,i6⟩:=nr hA kZ xs;refine ak (az:=[.sl 17 a0,.sl 17 a0]) (by subst a8;rfl) ?_;have hlen:(aaK xs:Int)<=4611686018427387904:=hk _ (by simp[qT]);refine aY Tryz.func18 ?_;refine gx hA 1 ?_;refine gs (gx hA 5 ?_);refine gc (λc1=>?_) (λc1=>?_)
 ·
  exact ay c1 (by subst hA;simp[aj])
 refine gk (gs (gx hA 1 ?_));refine af ?_;refine aF (λσ m=>∃(i:Nat) (n5:Int),σ=(ZT a0 n5)/\(n5=(i:Int)/\i<=aaK xs)/\m=aaK xs - i) _ [] [0,1,5] [] _ rfl (by cbv) ⟨0,0,rfl,?_,rfl⟩ (λσ m hI=>?_)
 ·
  exact⟨rfl,aaW _⟩
 obtain⟨i,n5,rfl,⟨jY,hi⟩,rfl⟩:=hI;refine gs (gx hA 4 ?_);refine gc (λc2=>?_) (λc2=>?_)
 ·
  have iY:n5 < (A.ao a0):=aP hA c2;omega
 have iY:(A.ao a0)<=n5:=aQ hA c2;refine aI (gE ?_);refine gx hA 1 ?_;refine rt (gt ?_);show _=(PV.bool true);rfl
theorem qU (A:ax)(hA:A=aj)(x:gv)(hk:∀ k∈pJ x,(k:Int)<=4611686018427387904)(ja:aaK x.aN.Log.ba.Cache=0)(nX:aaK x.aN.cW=0)(Ix:aaK x.dg=0):al 8 [.agg (GD x),.agg (GD x)] (.bool true):=by
 obtain⟨⟨⟨⟨a9,a1⟩,b3,d6,a5,a6,b1,a2⟩,d1⟩,e9⟩:=x;obtain⟨a4,a3,j5⟩:=nr hA ah a9;obtain⟨b0,a7,j7⟩:=nr hA bn a1;obtain⟨d0,b7,k8⟩:=nr hA cA d6;obtain⟨d9,d8,m0⟩:=nr hA bq d1;obtain⟨f6,f4,m8⟩:=nr hA kZ e9;refine ak (az:=[.agg [.sl 1 a4,.sl 2 b0,.ii b3,.sl 4 d0,.ii a5,.ii a6,.ii b1,.ii a2,.sl 1 d9,.sl 17 f6],.agg [.sl 1 a4,.sl 2 b0,.ii b3,.sl 4 d0,.ii a5,.ii a6,.ii b1,.ii a2,.sl 1 d9,.sl 17 f6]]) (by subst a3 a7 b7 d8 f4;rfl) ?_;have ja:aaK a1=0:=ja;have nX:aaK d1=0:=nX;have Ix:aaK e9=0:=Ix;refine aY Tryz.func8 ?_;refine gx hA 3 ?_;refine gs (gs (gr (rn hA 4 ?_)));have aJ:=Hr A hA (⟨⟨⟨a9,a1⟩,b3,d6,a5,a6,b1,a2⟩,d1⟩:aK) (λk h=>hk k (by simp only[pJ,aaV];simp only[h,true_or,or_true])) (by omega) (by omega);refine aH aJ (.inr rfl) ?_ (hv:=by subst a3 a7 b7 d8;rfl);refine rz hA 1 ?_;refine gc (λc3=>?_) (λc3=>?_)
 ·
  exact ay c3 (by subst hA;rfl)
 refine gk (gs (gs (gr (rn hA 4 ?_))));have eu:=Cz A hA e9 (λk h=>hk k (by simp only[pJ,aaV];simp only[h,true_or,or_true])) (by omega);refine aH eu (.inr rfl) ?_ (hv:=by subst f4;rfl);refine rz hA 1 ?_;refine gc (λc6=>?_) (λc6=>?_)
 ·
  exact ay c6 (by subst hA;rfl)
 refine gk (gx hA 1 ?_);refine rt (gt ?_);show _=(PV.bool true);rfl
def QV (k:Int):ByteArray:=strOfNums [IntKind.u8.wrap (IntKind.i64.wrap (48+k.tmod 10))]
def yW (k:Int)(out:ByteArray):ByteArray:=if h:0 < k then yW (k.tdiv 10) (QV k++out) else out
 termination_by k.toNat
 decreasing_by rw[abF (by omega)];omega
def mt (k:Int):ByteArray:=if k<=0 then ⟨#[109,48]⟩ else ⟨#[109]⟩++yW k ⟨#[]⟩
def mb (k:Int):Bool:=k.tmod 3 == 0
def dC (xs:List Int):Int:=xs.length
def kY :Int->List Int->List Int
 | _,[]=>[]
 | k,_::xs=>(k)::kY (k+1) xs
theorem kN (xs:List Int):0<=dC xs:=by simp[dC]
theorem It (xs:List Int):(aaK xs:Int)<=dC xs:=by simp[dC]
theorem tH :∀(xs:List Int) (k:Int),(kY k xs).length=xs.length
 | [],_=>rfl
 | x::xs,k=>by simp[kY,tH xs]
def qj (xs:List Bool):Int:=xs.length
def NI :Int->List Bool->List Bool
 | _,[]=>[]
 | k,_::xs=>mb (k)::NI (k+1) xs
theorem FW (xs:List Bool):0<=qj xs:=by simp[qj]
def aB (xs:List ByteArray):Int:=xs.length
def cD :Int->List ByteArray->List ByteArray
 | _,[]=>[]
 | k,_::xs=>mt (k)::cD (k+1) xs
def mU (_:ByteArray):Int:=1
def uG (k:Int)(_:ByteArray):ByteArray:=mt (k)
theorem de (xs:List ByteArray):0<=aB xs:=by simp[aB]
theorem A3 (xs:List ByteArray):(aaK xs:Int)<=aB xs:=by simp[aB]
theorem pE (xs ys:List ByteArray):aB (xs++ys)=aB xs+aB ys:=by simp[aB]
theorem sO (x:ByteArray):aB [x]=mU x:=by simp[aB,mU]
theorem ly :∀(xs:List ByteArray) (k:Int),(cD k xs).length=xs.length
 | [],_=>rfl
 | x::xs,k=>by simp[cD,ly xs]
theorem zO :∀(xs ys:List ByteArray) (k:Int),cD k (xs++ys)=cD k xs++cD (k+aB xs) ys
 | [],ys,k=>by simp[cD,aB]
 | x::xs,ys,k=>by
  simp only[abt,cD,zO xs ys];congr 3;have:=sO x;have h2:=pE [x] xs;simp only[aca] at h2;rw[h2,this];unfold mU;omega
theorem LC {xs:List ByteArray}{i:Nat}{x:ByteArray}(k:Int)(h:xs[i]? =some x):cD k (xs.take (i+1))=cD k (xs.take i)++[uG (k+aB (xs.take i)) x]:=by
 rw[aa6,h,abT,zO];rfl
theorem zD :∀{xs:List ByteArray} {i:Nat} {x:ByteArray} (k:Int) (h:xs[i]? =some x),(cD k xs)[i]? =some (uG (k+aB (xs.take i)) x)
 | y::xs,0,x,k,h=>by
  simp only[ab3,aaQ.injEq] at h;subst h;simp[cD,aB,uG]
 | y::xs,i+1,x,k,h=>by
  have:=zD (k+mU y) (xs:=xs) (i:=i) (x:=x) (by simpa using h);simp only[cD,acz,acj];have e:=pE [y] (xs.take i);have e2:=sO y;simp only[aca] at e;rw[e,e2,<- Int.add_assoc];exact this
theorem A4 {xs:List ByteArray}{i:Nat}{x:ByteArray}(h:xs[i]? =some x):aB (xs.take (i+1))=aB (xs.take i)+mU x:=by
 rw[aa6,h,abT,pE,sO]
theorem A5 (xs:List ByteArray)(i:Nat):aB (xs.take i)<=aB xs:=by
 have h:=pE (xs.take i) (xs.drop i);rw[abH] at h;have:=de (xs.drop i);omega
def FX (x:gu):Int:=1+1+1
def Yx (k:Int)(x:gu):gu:=⟨(k),(k+1),mt (k+1+1)⟩
def mw :List gu->Int
 | []=>0
 | x::xs=>FX x+mw xs
def NJ :Int->List gu->List gu
 | _,[]=>[]
 | k,x::xs=>Yx k x::NJ (k+FX x) xs
theorem RA (x:gu):0<=FX x:=by
 unfold FX;omega
theorem za :∀ xs:List gu,0<=mw xs
 | []=>by simp[mw]
 | x::xs=>by have h1:=RA x;have h2:=za xs;simp only[mw];omega
def ky (x:ae):Int:=1+1+1+1+1+1+1+1+1
def xx (k:Int)(x:ae):ae:=⟨(k),⟨(k+1),(k+1+1),(k+1+1+1),(k+1+1+1+1),(k+1+1+1+1+1),mt (k+1+1+1+1+1+1),mt (k+1+1+1+1+1+1+1),mt (k+1+1+1+1+1+1+1+1)⟩⟩
def cO :List ae->Int
 | []=>0
 | x::xs=>ky x+cO xs
def fW :Int->List ae->List ae
 | _,[]=>[]
 | k,x::xs=>xx k x::fW (k+ky x) xs
theorem RB (x:ae):0<=ky x:=by
 unfold ky;omega
theorem RD (x:ae):1<=ky x:=by
 unfold ky;omega
theorem lH :∀ xs:List ae,0<=cO xs
 | []=>by simp[cO]
 | x::xs=>by have h1:=RB x;have h2:=lH xs;simp only[cO];omega
theorem yK :∀ xs:List ae,(aaK xs:Int)<=cO xs
 | []=>by simp[cO]
 | x::xs=>by have h1:=RD x;have h2:=yK xs;simp only[cO,aa5];omega
theorem rX :∀(xs ys:List ae),cO (xs++ys)=cO xs+cO ys
 | [],ys=>by simp[cO]
 | x::xs,ys=>by simp only[abt,cO,rX xs ys];omega
theorem Db (x:ae):cO [x]=ky x:=by simp[cO,ky]
theorem lS :∀(xs:List ae) (k:Int),(fW k xs).length=xs.length
 | [],_=>rfl
 | x::xs,k=>by simp[fW,lS xs]
theorem Dc :∀(xs ys:List ae) (k:Int),fW k (xs++ys)=fW k xs++fW (k+cO xs) ys
 | [],ys,k=>by simp[fW,cO]
 | x::xs,ys,k=>by
  simp only[abt,fW,Dc xs ys,cO];congr 3;omega
theorem OY {xs:List ae}{i:Nat}{x:ae}(k:Int)(h:xs[i]? =some x):fW k (xs.take (i+1))=fW k (xs.take i)++[xx (k+cO (xs.take i)) x]:=by
 rw[aa6,h,abT,Dc];rfl
theorem CX :∀{xs:List ae} {i:Nat} {x:ae} (k:Int) (h:xs[i]? =some x),(fW k xs)[i]? =some (xx (k+cO (xs.take i)) x)
 | y::xs,0,x,k,h=>by
  simp only[ab3,aaQ.injEq] at h;subst h;simp[fW,cO,xx]
 | y::xs,i+1,x,k,h=>by
  have:=CX (k+ky y) (xs:=xs) (i:=i) (x:=x) (by simpa using h);simp only[fW,acz,acj];have e:=rX [y] (xs.take i);have e2:=Db y;simp only[aca] at e;rw[e,e2,<- Int.add_assoc];exact this
theorem EV {xs:List ae}{i:Nat}{x:ae}(h:xs[i]? =some x):cO (xs.take (i+1))=cO (xs.take i)+ky x:=by
 rw[aa6,h,abT,rX,Db]
theorem EW (xs:List ae)(i:Nat):cO (xs.take i)<=cO xs:=by
 have h:=rX (xs.take i) (xs.drop i);rw[abH] at h;have:=lH (xs.drop i);omega
def tY (x:br):Int:=1+1
def Vk (k:Int)(x:br):br:=⟨(k),mt (k+1)⟩
def bh :List br->Int
 | []=>0
 | x::xs=>tY x+bh xs
def fM :Int->List br->List br
 | _,[]=>[]
 | k,x::xs=>Vk k x::fM (k+tY x) xs
theorem Pt (x:br):0<=tY x:=by
 unfold tY;omega
theorem Pu (x:br):1<=tY x:=by
 unfold tY;omega
theorem fw :∀ xs:List br,0<=bh xs
 | []=>by simp[bh]
 | x::xs=>by have h1:=Pt x;have h2:=fw xs;simp only[bh];omega
theorem wT :∀ xs:List br,(aaK xs:Int)<=bh xs
 | []=>by simp[bh]
 | x::xs=>by have h1:=Pu x;have h2:=wT xs;simp only[bh,aa5];omega
theorem qN :∀(xs:List br) (k:Int),(fM k xs).length=xs.length
 | [],_=>rfl
 | x::xs,k=>by simp[fM,qN xs]
def qk (x:fi):Int:=1+1+1+1+1+1+aB x.fh.To+aB x.fh.Data+1+1+mw x.gJ.fQ+qj x.gJ.oi+1+1+1+1+dC x.pR.BH
def RE (k:Int)(x:fi):fi:=⟨(k),mt (k+1),mt (k+1+1),mb (k+1+1+1),⟨(k+1+1+1+1),mt (k+1+1+1+1+1),cD (k+1+1+1+1+1+1) x.fh.To,cD (k+1+1+1+1+1+1+aB x.fh.To) x.fh.Data⟩,⟨(k+1+1+1+1+1+1+aB x.fh.To+aB x.fh.Data),mt (k+1+1+1+1+1+1+aB x.fh.To+aB x.fh.Data+1),NJ (k+1+1+1+1+1+1+aB x.fh.To+aB x.fh.Data+1+1) x.gJ.fQ,NI (k+1+1+1+1+1+1+aB x.fh.To+aB x.fh.Data+1+1+mw x.gJ.fQ) x.gJ.oi⟩,⟨(k+1+1+1+1+1+1+aB x.fh.To+aB x.fh.Data+1+1+mw x.gJ.fQ+qj x.gJ.oi),mt (k+1+1+1+1+1+1+aB x.fh.To+aB x.fh.Data+1+1+mw x.gJ.fQ+qj x.gJ.oi+1),mt (k+1+1+1+1+1+1+aB x.fh.To+aB x.fh.Data+1+1+mw x.gJ.fQ+qj x.gJ.oi+1+1),(k+1+1+1+1+1+1+aB x.fh.To+aB x.fh.Data+1+1+mw x.gJ.fQ+qj x.gJ.oi+1+1+1),kY (k+1+1+1+1+1+1+aB x.fh.To+aB x.fh.Data+1+1+mw x.gJ.fQ+qj x.gJ.oi+1+1+1+1) x.pR.BH⟩⟩
def cK :List fi->Int
 | []=>0
 | x::xs=>qk x+cK xs
def iZ :Int->List fi->List fi
 | _,[]=>[]
 | k,x::xs=>RE k x::iZ (k+qk x) xs
theorem L3 (x:fi):0<=qk x:=by
 unfold qk;have h6:=de x.fh.To;have h7:=de x.fh.Data;have VQ:=za x.gJ.fQ;have Bm:=FW x.gJ.oi;have WJ:=kN x.pR.BH;omega
theorem L4 (x:fi):1<=qk x:=by
 unfold qk;have h6:=de x.fh.To;have h7:=de x.fh.Data;have VQ:=za x.gJ.fQ;have Bm:=FW x.gJ.oi;have WJ:=kN x.pR.BH;omega
theorem lz :∀ xs:List fi,0<=cK xs
 | []=>by simp[cK]
 | x::xs=>by have h1:=L3 x;have h2:=lz xs;simp only[cK];omega
theorem sK :∀ xs:List fi,(aaK xs:Int)<=cK xs
 | []=>by simp[cK]
 | x::xs=>by have h1:=L4 x;have h2:=sK xs;simp only[cK,aa5];omega
theorem oO :∀(xs:List fi) (k:Int),(iZ k xs).length=xs.length
 | [],_=>rfl
 | x::xs,k=>by simp[iZ,oO xs]
def mV (x:bu):Int:=1+1+1+cO x.ka
def B7 (k:Int)(x:bu):bu:=⟨(k),(k+1),(k+1+1),fW (k+1+1+1) x.ka⟩
def bK :List bu->Int
 | []=>0
 | x::xs=>mV x+bK xs
def ft :Int->List bu->List bu
 | _,[]=>[]
 | k,x::xs=>B7 k x::ft (k+mV x) xs
theorem S9 (x:bu):0<=mV x:=by
 unfold mV;have h3:=lH x.ka;omega
theorem Ta (x:bu):1<=mV x:=by
 unfold mV;have h3:=lH x.ka;omega
theorem gM :∀ xs:List bu,0<=bK xs
 | []=>by simp[bK]
 | x::xs=>by have h1:=S9 x;have h2:=gM xs;simp only[bK];omega
theorem A7 :∀ xs:List bu,(aaK xs:Int)<=bK xs
 | []=>by simp[bK]
 | x::xs=>by have h1:=Ta x;have h2:=A7 xs;simp only[bK,aa5];omega
theorem tN :∀(xs ys:List bu),bK (xs++ys)=bK xs+bK ys
 | [],ys=>by simp[bK]
 | x::xs,ys=>by simp only[abt,bK,tN xs ys];omega
theorem yP (x:bu):bK [x]=mV x:=by simp[bK,mV]
theorem oN :∀(xs:List bu) (k:Int),(ft k xs).length=xs.length
 | [],_=>rfl
 | x::xs,k=>by simp[ft,oN xs]
theorem FY :∀(xs ys:List bu) (k:Int),ft k (xs++ys)=ft k xs++ft (k+bK xs) ys
 | [],ys,k=>by simp[ft,bK]
 | x::xs,ys,k=>by
  simp only[abt,ft,FY xs ys,bK];congr 3;omega
theorem QX {xs:List bu}{i:Nat}{x:bu}(k:Int)(h:xs[i]? =some x):ft k (xs.take (i+1))=ft k (xs.take i)++[B7 (k+bK (xs.take i)) x]:=by
 rw[aa6,h,abT,FY];rfl
theorem EY :∀{xs:List bu} {i:Nat} {x:bu} (k:Int) (h:xs[i]? =some x),(ft k xs)[i]? =some (B7 (k+bK (xs.take i)) x)
 | y::xs,0,x,k,h=>by
  simp only[ab3,aaQ.injEq] at h;subst h;simp[ft,bK,B7]
 | y::xs,i+1,x,k,h=>by
  have:=EY (k+mV y) (xs:=xs) (i:=i) (x:=x) (by simpa using h);simp only[ft,acz,acj];have e:=tN [y] (xs.take i);have e2:=yP y;simp only[aca] at e;rw[e,e2,<- Int.add_assoc];exact this
theorem Iu {xs:List bu}{i:Nat}{x:bu}(h:xs[i]? =some x):bK (xs.take (i+1))=bK (xs.take i)+mV x:=by
 rw[aa6,h,abT,tN,yP]
theorem Iv (xs:List bu)(i:Nat):bK (xs.take i)<=bK xs:=by
 have h:=tN (xs.take i) (xs.drop i);rw[abH] at h;have:=gM (xs.drop i);omega
def E0 (x:bj):Int:=aB x.aD+bh x.Cache
def QB (k:Int)(x:bj):bj:=⟨cD (k) x.aD,fM (k+aB x.aD) x.Cache⟩
def JR (x:bF):Int:=aB x.ba.aD+bh x.ba.Cache+bK x.Used
def TZ (k:Int)(x:bF):bF:=⟨⟨cD (k) x.ba.aD,fM (k+aB x.ba.aD) x.ba.Cache⟩,x.ld,ft (k+aB x.ba.aD+bh x.ba.Cache) x.Used,x.dZ,x.ea,x.fv,x.cT⟩
def B8 (x:aK):Int:=aB x.Log.ba.aD+bh x.Log.ba.Cache+bK x.Log.Used+dC x.cW
def MZ (k:Int)(x:aK):aK:=⟨⟨⟨cD (k) x.Log.ba.aD,fM (k+aB x.Log.ba.aD) x.Log.ba.Cache⟩,x.Log.ld,ft (k+aB x.Log.ba.aD+bh x.Log.ba.Cache) x.Log.Used,x.Log.dZ,x.Log.ea,x.Log.fv,x.Log.cT⟩,kY (k+aB x.Log.ba.aD+bh x.Log.ba.Cache+bK x.Log.Used) x.cW⟩
def uH (x:gv):Int:=aB x.aN.Log.ba.aD+bh x.aN.Log.ba.Cache+bK x.aN.Log.Used+dC x.aN.cW+cK x.dg
def Lh (k:Int)(x:gv):gv:=⟨⟨⟨⟨cD (k) x.aN.Log.ba.aD,fM (k+aB x.aN.Log.ba.aD) x.aN.Log.ba.Cache⟩,x.aN.Log.ld,ft (k+aB x.aN.Log.ba.aD+bh x.aN.Log.ba.Cache) x.aN.Log.Used,x.aN.Log.dZ,x.aN.Log.ea,x.aN.Log.fv,x.aN.Log.cT⟩,kY (k+aB x.aN.Log.ba.aD+bh x.aN.Log.ba.Cache+bK x.aN.Log.Used) x.aN.cW⟩,iZ (k+aB x.aN.Log.ba.aD+bh x.aN.Log.ba.Cache+bK x.aN.Log.Used+dC x.aN.cW) x.dg⟩
theorem pL {α:Type}{u o:List α}{i:Nat}{c:α}{n:Int}(h:u=o.set i c)(hl:(o.length:Int)=n):(u.length:Int)=n:=by rw[h,List.length_set];exact hl
theorem pM {α:Type}{u o:List α}{i:Nat}{c x:α}(h:u=o.set i c)(hz:o[i]? =some x):u[i]? =some c:=by rw[h];exact R7 hz
theorem sM {α:Type}{u o r:List α}{i:Nat}{c d:α}(h:u=o.set i c)(hf:o=r.set i d):u=r.set i c:=by rw[h,hf,List.set_set]
theorem add_one {A:ax}(hA:A=aj){k r s t:Int}(p:0<=k)(q:k+r<=1099511627776/\k+r=t)(hr:r=1+s)(e:0<=s):∃ v:Int,v=k+1/\A.num .add .i64 k 1=v/\0<=v/\v+s<=1099511627776/\v+s=t:=⟨k+1,rfl,au hA (by omega) (by omega),by omega,by omega,by omega⟩
theorem QA {k v c r s t:Int}(hv:v=k+c)(p:0<=k)(q:k+r<=1099511627776/\k+r=t)(hr:r=c+s)(n:0<=c):0<=v/\v+s<=1099511627776/\v+s=t:=⟨by omega,by omega,by omega⟩
theorem TY {k c r s t:Int}(q:k+r<=1099511627776/\k+r=t)(hr:r=c+s)(e:0<=s):k+c<=1099511627776:=by omega
theorem A6 {k r t:Int}(q:k+r<=1099511627776/\k+r=t)(e:0<=r):k<=1099511627776:=by omega
theorem fA {a b:Int}(h:0<=a)(g:0<=b):0<=a+b:=by omega
theorem B6 {kn rn kk r0 k c c' ce:Int}(h:kn+rn<=1099511627776/\kn+rn=kk+r0)(hn:rn=0)(h0:r0=ce)(hkk:kk=k+c)(cat:c'=c+ce):kn=k+c':=by omega
theorem LA {k:Int}(h:0<=k):k.tdiv 10=k / 10:=abF h
theorem Nk {A:ax}(hA:A=aj){k:Int}(h1:0<=k)(h2:k<=1099511627776):A.num .quo .i64 k 10=k / 10:=by
 subst hA;have h:IntKind.i64.wrap (k.tdiv 10)=k.tdiv 10:=by
  rw[LA h1];exact Ge (by omega) (by omega)
 rw[<- LA h1];exact h
theorem LB {A:ax}(hA:A=aj)(k:Int):A.uw [[.int .u8 (A.cw .u8 (A.num .add .i64 48 (A.num .rem .i64 k 10)))]]=QV k:=by subst hA;rfl
theorem DR (k:Int):(QV k).size=1:=by simp[QV,strOfNums_size]
theorem SS {k:Int}(out:ByteArray)(h:0 < k):yW k out=yW (k / 10) (QV k++out):=by rw[yW,dif_pos h,LA (by omega)]
theorem QW {k:Int}(out:ByteArray)(h:k<=0):yW k out=out:=by rw[yW,dif_neg (by omega)]
def Zs (p0:Int)(p1:ByteArray):St:={sl:=.ii p0::.aa::.aa::.str p1::ya,bl:=[]}
theorem ic (A:ax)(hA:A=aj)(k:Int)(h0:0<=k)(h1:k<=1099511627776):al 19 [.ii k] (.str (mt k)):=by
 refine aY Tryz.func19 ?_;refine gx hA 1 ?_;refine gs (gx hA 2 ?_);refine gc (λc1=>?_) (λc1=>?_)
 ·
  have aV:k<=0:=JK hA c1;refine gx hA 1 ?_;refine rt (gt ?_);refine congrArg PV.str ?_;rw[mt,if_pos (by omega)]
 have aV:0 < k:=JL hA c1;refine gk (gx hA 1 ?_);refine gs (af ?_);refine aF (λσ m=>∃(kk:Int) (out:ByteArray),σ=(Zs kk out)/\(0<=kk/\kk<=1099511627776/\(aaL out:Int)+kk<=1099511627776/\yW k (aaP #[])=yW kk out)/\m=aaO kk) _ [] [0,3] [] _ rfl (by cbv) ⟨k,(aaP #[]),rfl,?_,rfl⟩ (λσ m hI=>?_)
 ·
  exact⟨by omega,by omega,by show((0:Nat):Int)+k<=_;omega,rfl⟩
 obtain⟨kk,out,rfl,⟨Kv,sT,hs,hm⟩,rfl⟩:=hI;refine gs (gx hA 2 ?_);refine gc (λc2=>?_) (λc2=>?_)
 ·
  have iY:0 < kk:=dJ hA c2;refine gk (af (gs (gr (rn hA 7 ?_))));obtain⟨s3,IK⟩:=nm ((A.uw [[.int .u8 (A.cw .u8 (A.num .add .i64 48 (A.num .rem .i64 kk 10)))]])++out:ByteArray);have WK:aaL s3=aaL (A.uw [[.int .u8 (A.cw .u8 (A.num .add .i64 48 (A.num .rem .i64 kk 10)))]])+aaL out:=by rw[IK];exact aaT
  have WL:aaL (A.uw [[.int .u8 (A.cw .u8 (A.num .add .i64 48 (A.num .rem .i64 kk 10)))]])+aaL out<=140737488355328:=by
   first
   | (rw [LB hA,DR];omega)
   | (show 1+_<=_;omega)
  refine zg IK WL ?_;refine rz hA 1 ?_;refine gy hA 3 ?_;refine⟨_,_,?_,by cbv,(A.num .quo .i64 kk 10),s3,rfl,?_,rfl⟩
  ·
   rw[Nk hA (by omega) (by omega)];omega
  rw[Nk hA (by omega) (by omega)];rw[LB hA] at IK WK;rw[DR] at WK;exact⟨by omega,by omega,by omega,by rw[hm,SS _ (by omega),IK]⟩
 have iY:kk<=0:=dL hA c2;refine aI (gE ?_);refine gs (gr (rn hA 1 ?_));obtain⟨s4,Bo⟩:=nm ((aaP #[109])++out:ByteArray);have zs4:aaL s4=aaL (aaP #[109])+aaL out:=by rw[Bo];exact aaT
 have WM:aaL (aaP #[109])+aaL out<=140737488355328:=by
  first
  | (rw [LB hA,DR];omega)
  | (show 1+_<=_;omega)
 refine zg Bo WM ?_;refine rz hA 1 ?_;refine rt (gt ?_);refine congrArg PV.str ?_;rw[mt,if_neg (by omega),Bo];rw[hm,QW _ (by omega)]
def Zt (hv:Nat->Value)(p0 p1:Int)(p2:RR):St:={sl:=.own 1000000000::.ii p0::dV++.ii p1::BI,bl:=[(1000000000,⟨.arr,1,p2⟩)],hd:=[(1000000000,hv 1000000000)]}
theorem sr (A:ax)(hA:A=aj)(x:List ByteArray)(k:Int)(h0:0<=k)(h1:k+aB x<=1099511627776):fo Tryz.prog 10 [.ow 1 (aaN ah x),.ii k] [.ow 1 (aaN ah (cD k x)),.ii k] (.ii (k+aB x)):=by
 obtain⟨gC,b1,f1⟩:=nr hA ah x;refine jE (eR:=[.ow 1 gC,.ii k]) (by subst b1;rfl) rfl ?_;have h2:(aaK x:Int)<=1099511627776:=by have:=A3 x;omega
 refine rR nQ Tryz.func10 (by kernel_rfl) (lP rfl (by cbv) (λhv=>?_));refine gs (gB (rn hA 1 (oz ?_)));refine gs (gs (gB (rn hA 1 (oz ?_))));refine af ?_;refine aF (λσ m=>∃(i:Nat) (ro:RR) (n5 kk:Int),σ=(Zt hv kk n5 ro)/\(n5=(i:Int)/\i<=aaK x/\kk=k+aB (x.take i)/\ro=aaN ah (cD k (x.take i)++x.drop i))/\m=aaK x - i) _ [] [0,1,5] [1000000000] _ rfl (by cbv) ⟨0,gC,0,k,rfl,?_,rfl⟩ (λσ m hI=>?_)
 ·
  exact⟨rfl,aaW _,by simp[aB],b1⟩
 obtain⟨i,ro,n5,kk,rfl,⟨jY,hi,hkk,hro⟩,rfl⟩:=hI;have hlro:(aaK ro:Int)=aaK x:=by
  rw[hro];simp only[aaS,aaY,ly,aa1,abo];omega
 have lro:A.ao ro=(aaK x:Int):=by
  rw[ab hA hro];simp only[aaY,ly,aa1,abo];omega
 refine gs (gs (gB (rn hA 4 (oz ?_))));refine gc (λc1=>?_) (λc1=>?_)
 ·
  have aV:n5 < (A.ao ro):=aP hA c1;refine gk (gs (af (gs ?_)));have kx:(0:Int)<=n5:=by omega
  have hlt:aaO n5 < aaK x:=by omega
  obtain⟨y,hy⟩:∃ y,x[aaO n5]? =some y:=⟨_,aa7 hlt⟩;have hyi:x[i]? =some y:=by have h:=hy;rw[jY] at h;exact h
  have cat:=A4 hyi;have cle:=A5 x (i+1);have cnn:=de (x.take i);have cce:mU y=1:=rfl;have b7:ro=aaN ah (cD k (x.take i)++y::x.drop (i+1)):=by
   rw[hro,<- tR hyi]
  have c4:ro[aaO n5]? =some (ah y):=by
   rw[b7,jY];exact Dq (by rw[ly,aa1];omega)
  have hzro:ro[aaO n5]? =some [.str y]:=by exact c4
  obtain⟨r1,ep,e1⟩:∃ r:Int,r=0/\0<=r:=⟨0,rfl,by decide⟩;obtain⟨r0,dQ,e0⟩:∃ r:Int,r=1+r1/\0<=r:=⟨_,rfl,fA (by decide) e1⟩;have p0:0<=kk:=by clear ep e1 dQ e0;omega
  have hrce:r0=mU y:=by subst ep dQ;rw[cce];omega
  have q0:kk+r0<=1099511627776/\kk+r0=kk+r0:=⟨by clear ep e1 dQ e0;omega,rfl⟩;have b0:n5 < (aaK x:Int):=by clear ep e1 dQ e0;omega
  have nU:i+1<=aaK x:=by clear ep e1 dQ e0;omega
  have d5:A.num .add .i64 n5 1=((i+1:Nat):Int):=by
   clear ep e1 dQ e0;rw[au hA (by omega) (by omega)];omega
  have hlen:i=aaK (cD k (x.take i)):=by rw[ly,aa1];clear ep e1 dQ e0;omega
  have hdec:aaK x - (i+1) < aaK x - i:=by clear ep e1 dQ e0;omega
  refine gB (rn hA 3 ?_);obtain⟨f4,j4,mi⟩:=fe (ic A hA kk p0 (A6 q0 e0));refine aH mi (.inr rfl) ?_;have m1:n5 < (aaK ro:Int):=by rw[hlro];exact b0
  refine nH kx m1 ?_;obtain⟨o5,T9⟩:∃ r,r=ro.set (aaO n5) [.str f4]:=⟨_,rfl⟩;have o1:=pL T9 hlro;have o2:=pM T9 hzro;have m6:=T9;refine bO rfl rfl (ik (r:=[.str y]) (cs:=[.str f4]) rfl rfl rfl rfl rfl ⟨_,_,rfl⟩ rfl rfl hzro rfl T9) ?_;refine oz ?_;refine gB (rn hA 1 ?_);obtain⟨k6,wk6,n2,pk6,qk6⟩:=add_one hA p0 q0 dQ e1;refine mA hA n2 ?_;refine rn hA 1 (oz ?_);refine gB (rn hA 1 ?_);refine rn hA 1 ?_;refine rn hA 1 (oz ?_);refine⟨_,_,?_,by cbv,i+1,o5,(A.num .add .i64 n5 1),k6,rfl,?_,rfl⟩
  ·
   exact hdec
  have hrow:([.str f4]:List PV)=ah (uG kk y):=by
   subst wk6;show _=([_]:List PV);exact congr (congrArg abC (congrArg PV.str j4)) (rfl)
  refine⟨d5,nU,B6 qk6 ep hrce hkk cat,?_⟩;rw[m6,hrow,b7,jY,LC k hyi,<- hkk];exact Dp (hlen.symm.trans (abb i).symm)
 have aV:(A.ao ro)<=n5:=aQ hA c1;refine aI (gE ?_);refine gs (gB (rn hA 2 (oz ?_)));refine kT ⟨⟨rfl,trivial⟩,acv (b:=some [.ow 1 ro,.ii k]) (by cbv) ?_,_,by cbv,?_⟩
 ·
  rw[hro,aaU (by omega),abk (by omega),abm]
 refine congrArg (PV.int .i64) ?_;rw[hkk,aaU (by omega)]
def Zu (hv:Nat->Value)(p0 p1:Int)(p2:RR):St:={sl:=.own 1000000000::.ii p0::dV++.ii p1::xZ,bl:=[(1000000000,⟨.arr,1,p2⟩)],hd:=[(1000000000,hv 1000000000)]}
theorem Fk (A:ax)(hA:A=aj)(x:List Int)(k:Int)(h0:0<=k)(h1:k+dC x<=1099511627776)(vx:aaK x=0):fo Tryz.prog 38 [.ow 1 (aaN bq x),.ii k] [.ow 1 (aaN bq (kY k x)),.ii k] (.ii (k+dC x)):=by
 obtain⟨gC,b1,f1⟩:=nr hA bq x;refine jE (eR:=[.ow 1 gC,.ii k]) (by subst b1;rfl) rfl ?_;have h2:(aaK x:Int)<=1099511627776:=by have:=It x;omega
 refine rR nQ Tryz.func38 (by kernel_rfl) (lP rfl (by cbv) (λhv=>?_));refine gs (gB (rn hA 1 (oz ?_)));refine gs (gs (gB (rn hA 1 (oz ?_))));refine af ?_;refine aF (λσ m=>∃(i:Nat) (ro:RR) (n5 kk:Int),σ=(Zu hv kk n5 ro)/\(n5=(i:Int)/\i<=aaK x/\kk=k+dC (x.take i)/\ro=aaN bq (kY k (x.take i)++x.drop i))/\m=aaK x - i) _ [] [0,1,5] [1000000000] _ rfl (by cbv) ⟨0,gC,0,k,rfl,?_,rfl⟩ (λσ m hI=>?_)
 ·
  exact⟨rfl,aaW _,by simp[dC],b1⟩
 obtain⟨i,ro,n5,kk,rfl,⟨jY,hi,hkk,hro⟩,rfl⟩:=hI;have hlro:(aaK ro:Int)=aaK x:=by
  rw[hro];simp only[aaS,aaY,tH,aa1,abo];omega
 have lro:A.ao ro=(aaK x:Int):=by
  rw[ab hA hro];simp only[aaY,tH,aa1,abo];omega
 refine gs (gs (gB (rn hA 4 (oz ?_))));refine gc (λc1=>?_) (λc1=>?_)
 ·
  have aV:n5 < (A.ao ro):=aP hA c1;omega
 have aV:(A.ao ro)<=n5:=aQ hA c1;refine aI (gE ?_);refine gs (gB (rn hA 2 (oz ?_)));refine kT ⟨⟨rfl,trivial⟩,acv (b:=some [.ow 1 ro,.ii k]) (by cbv) ?_,_,by cbv,?_⟩
 ·
  rw[hro,aaU (by omega),abk (by omega),abm]
 refine congrArg (PV.int .i64) ?_;rw[hkk,aaU (by omega)]
def WN (hv:Nat->Value)(p0 p1:Int)(p2:RR):St:={sl:=.own 1000000000::.ii p0::dV++.ii p1::NK,bl:=[(1000000000,⟨.arr,2,p2⟩)],hd:=[(1000000000,hv 1000000000)]}
theorem Cm (A:ax)(hA:A=aj)(x:List br)(k:Int)(h0:0<=k)(h1:k+bh x<=1099511627776)(vx:aaK x=0):fo Tryz.prog 138 [.ow 2 (aaN aU x),.ii k] [.ow 2 (aaN aU (fM k x)),.ii k] (.ii (k+bh x)):=by
 obtain⟨gC,b1,f1⟩:=nr hA aU x;refine jE (eR:=[.ow 2 gC,.ii k]) (by subst b1;rfl) rfl ?_;have h2:(aaK x:Int)<=1099511627776:=by have:=wT x;omega
 refine rR nQ Tryz.func138 (by kernel_rfl) (lP rfl (by cbv) (λhv=>?_));refine gs (gB (rn hA 1 (oz ?_)));refine gs (gs (gB (rn hA 1 (oz ?_))));refine af ?_;refine aF (λσ m=>∃(i:Nat) (ro:RR) (n5 kk:Int),σ=(WN hv kk n5 ro)/\(n5=(i:Int)/\i<=aaK x/\kk=k+bh (x.take i)/\ro=aaN aU (fM k (x.take i)++x.drop i))/\m=aaK x - i) _ [] [0,1,5] [1000000000] _ rfl (by cbv) ⟨0,gC,0,k,rfl,?_,rfl⟩ (λσ m hI=>?_)
 ·
  exact⟨rfl,aaW _,by simp[bh],b1⟩
 obtain⟨i,ro,n5,kk,rfl,⟨jY,hi,hkk,hro⟩,rfl⟩:=hI;have hlro:(aaK ro:Int)=aaK x:=by
  rw[hro];simp only[aaS,aaY,qN,aa1,abo];omega
 have lro:A.ao ro=(aaK x:Int):=by
  rw[ab hA hro];simp only[aaY,qN,aa1,abo];omega
 refine gs (gs (gB (rn hA 4 (oz ?_))));refine gc (λc1=>?_) (λc1=>?_)
 ·
  have aV:n5 < (A.ao ro):=aP hA c1;omega
 have aV:(A.ao ro)<=n5:=aQ hA c1;refine aI (gE ?_);refine gs (gB (rn hA 2 (oz ?_)));refine kT ⟨⟨rfl,trivial⟩,acv (b:=some [.ow 2 ro,.ii k]) (by cbv) ?_,_,by cbv,?_⟩
 ·
  rw[hro,aaU (by omega),abk (by omega),abm]
 refine congrArg (PV.int .i64) ?_;rw[hkk,aaU (by omega)]
def WO (hv:Nat->Value)(p0 p1:Int)(p2:RR):St:={sl:=.own 1000000000::.ii p0::dV++.ii p1::Tv,bl:=[(1000000000,⟨.arr,9,p2⟩)],hd:=[(1000000000,hv 1000000000)]}
theorem DS (A:ax)(hA:A=aj)(x:List ae)(k:Int)(h0:0<=k)(h1:k+cO x<=1099511627776):fo Tryz.prog 139 [.ow 9 (aaN da x),.ii k] [.ow 9 (aaN da (fW k x)),.ii k] (.ii (k+cO x)):=by
 obtain⟨gC,b1,f1⟩:=nr hA da x;refine jE (eR:=[.ow 9 gC,.ii k]) (by subst b1;rfl) rfl ?_;have h2:(aaK x:Int)<=1099511627776:=by have:=yK x;omega
 refine rR nQ Tryz.func139 (by kernel_rfl) (lP rfl (by cbv) (λhv=>?_));refine gs (gB (rn hA 1 (oz ?_)));refine gs (gs (gB (rn hA 1 (oz ?_))));refine af ?_;refine aF (λσ m=>∃(i:Nat) (ro:RR) (n5 kk:Int),σ=(WO hv kk n5 ro)/\(n5=(i:Int)/\i<=aaK x/\kk=k+cO (x.take i)/\ro=aaN da (fW k (x.take i)++x.drop i))/\m=aaK x - i) _ [] [0,1,5] [1000000000] _ rfl (by cbv) ⟨0,gC,0,k,rfl,?_,rfl⟩ (λσ m hI=>?_)
 ·
  exact⟨rfl,aaW _,by simp[cO],b1⟩
 obtain⟨i,ro,n5,kk,rfl,⟨jY,hi,hkk,hro⟩,rfl⟩:=hI;have hlro:(aaK ro:Int)=aaK x:=by
  rw[hro];simp only[aaS,aaY,lS,aa1,abo];omega
 have lro:A.ao ro=(aaK x:Int):=by
  rw[ab hA hro];simp only[aaY,lS,aa1,abo];omega
 refine gs (gs (gB (rn hA 4 (oz ?_))));refine gc (λc1=>?_) (λc1=>?_)
 ·
  have aV:n5 < (A.ao ro):=aP hA c1;refine gk (gs (af (gs ?_)));have kx:(0:Int)<=n5:=by omega
  have hlt:aaO n5 < aaK x:=by omega
  obtain⟨y,hy⟩:∃ y,x[aaO n5]? =some y:=⟨_,aa7 hlt⟩;have hyi:x[i]? =some y:=by have h:=hy;rw[jY] at h;exact h
  have cat:=EV hyi;have cle:=EW x (i+1);have cnn:=lH (x.take i);have cce:ky y=_:=rfl;have b7:ro=aaN da (fW k (x.take i)++y::x.drop (i+1)):=by
   rw[hro,<- tR hyi]
  have c4:ro[aaO n5]? =some (da y):=by
   rw[b7,jY];exact Dq (by rw[lS,aa1];omega)
  obtain⟨c0,⟨a8,a5,a6,a4,a3,a2,a1,a0⟩⟩:=y;have hzro:ro[aaO n5]? =some [.ii c0,.ii a8,.ii a5,.ii a6,.ii a4,.ii a3,.str a2,.str a1,.str a0]:=by exact c4
  have cce:ky (⟨c0,⟨a8,a5,a6,a4,a3,a2,a1,a0⟩⟩:ae)=1+1+1+1+1+1+1+1+1:=rfl;obtain⟨r9,pq,e9⟩:∃ r:Int,r=0/\0<=r:=⟨0,rfl,by decide⟩;obtain⟨r8,pr,e8⟩:∃ r:Int,r=1+r9/\0<=r:=⟨_,rfl,fA (by decide) e9⟩;obtain⟨r7,kt,e7⟩:∃ r:Int,r=1+r8/\0<=r:=⟨_,rfl,fA (by decide) e8⟩;obtain⟨r6,kv,e6⟩:∃ r:Int,r=1+r7/\0<=r:=⟨_,rfl,fA (by decide) e7⟩;obtain⟨r5,kr,e5⟩:∃ r:Int,r=1+r6/\0<=r:=⟨_,rfl,fA (by decide) e6⟩;obtain⟨r4,gh,e4⟩:∃ r:Int,r=1+r5/\0<=r:=⟨_,rfl,fA (by decide) e5⟩;obtain⟨r3,dS,e3⟩:∃ r:Int,r=1+r4/\0<=r:=⟨_,rfl,fA (by decide) e4⟩;obtain⟨r2,fT,e2⟩:∃ r:Int,r=1+r3/\0<=r:=⟨_,rfl,fA (by decide) e3⟩;obtain⟨r1,ep,e1⟩:∃ r:Int,r=1+r2/\0<=r:=⟨_,rfl,fA (by decide) e2⟩;obtain⟨r0,dQ,e0⟩:∃ r:Int,r=1+r1/\0<=r:=⟨_,rfl,fA (by decide) e1⟩;have p0:0<=kk:=by clear pq e9 pr e8 kt e7 kv e6 kr e5 gh e4 dS e3 fT e2 ep e1 dQ e0;omega
  have hrce:r0=ky (⟨c0,⟨a8,a5,a6,a4,a3,a2,a1,a0⟩⟩:ae):=by subst pq pr kt kv kr gh dS fT ep dQ;rw[cce];omega
  have q0:kk+r0<=1099511627776/\kk+r0=kk+r0:=⟨by clear pq e9 pr e8 kt e7 kv e6 kr e5 gh e4 dS e3 fT e2 ep e1 dQ e0;omega,rfl⟩;have b0:n5 < (aaK x:Int):=by clear pq e9 pr e8 kt e7 kv e6 kr e5 gh e4 dS e3 fT e2 ep e1 dQ e0;omega
  have nU:i+1<=aaK x:=by clear pq e9 pr e8 kt e7 kv e6 kr e5 gh e4 dS e3 fT e2 ep e1 dQ e0;omega
  have d5:A.num .add .i64 n5 1=((i+1:Nat):Int):=by
   clear pq e9 pr e8 kt e7 kv e6 kr e5 gh e4 dS e3 fT e2 ep e1 dQ e0;rw[au hA (by omega) (by omega)];omega
  have hlen:i=aaK (fW k (x.take i)):=by rw[lS,aa1];clear pq e9 pr e8 kt e7 kv e6 kr e5 gh e4 dS e3 fT e2 ep e1 dQ e0;omega
  have hdec:aaK x - (i+1) < aaK x - i:=by clear pq e9 pr e8 kt e7 kv e6 kr e5 gh e4 dS e3 fT e2 ep e1 dQ e0;omega
  refine gB (rn hA 3 ?_);have g5:n5 < (aaK ro:Int):=by rw[hlro];exact b0
  refine nH kx g5 ?_;refine rn hA 1 ?_;obtain⟨o3,Fl⟩:∃ r,r=ro.set (aaO n5) [.ii kk,.ii a8,.ii a5,.ii a6,.ii a4,.ii a3,.str a2,.str a1,.str a0]:=⟨_,rfl⟩;have c9:=pL Fl hlro;have d0:=pM Fl hzro;have g3:=Fl;refine bO rfl rfl (ik (r:=[.ii c0,.ii a8,.ii a5,.ii a6,.ii a4,.ii a3,.str a2,.str a1,.str a0]) (cs:=[.ii kk]) rfl rfl rfl rfl rfl ⟨_,_,rfl⟩ rfl rfl hzro rfl Fl) ?_;refine oz ?_;refine gs (gB (rn hA 1 ?_));obtain⟨k4,WQ,g4,WR,WS⟩:=add_one hA p0 q0 dQ e1;refine mA hA g4 ?_;refine rn hA 1 (oz ?_);refine gs (gB (rn hA 3 ?_));have g7:n5 < (aaK o3:Int):=by rw[c9];exact b0
  refine nH kx g7 ?_;refine rn hA 2 ?_;obtain⟨o6,Fm⟩:∃ r,r=o3.set (aaO n5) [.ii kk,.ii k4,.ii a5,.ii a6,.ii a4,.ii a3,.str a2,.str a1,.str a0]:=⟨_,rfl⟩;have d3:=pL Fm c9;have d1:=pM Fm d0;have g6:=sM Fm g3;refine bO rfl rfl (ik (r:=[.ii kk,.ii a8,.ii a5,.ii a6,.ii a4,.ii a3,.str a2,.str a1,.str a0]) (cs:=[.ii k4]) rfl rfl rfl rfl rfl ⟨_,_,rfl⟩ rfl rfl d0 rfl Fm) ?_;refine oz ?_;refine gs (gB (rn hA 1 ?_));obtain⟨k7,WT,g8,WU,WV⟩:=add_one hA WR WS ep e2;refine mA hA g8 ?_;refine rn hA 1 (oz ?_);refine gs (gB (rn hA 3 ?_));have g9:n5 < (aaK o6:Int):=by rw[d3];exact b0
  refine nH kx g9 ?_;refine rn hA 2 ?_;obtain⟨o9,Fo⟩:∃ r,r=o6.set (aaO n5) [.ii kk,.ii k4,.ii k7,.ii a6,.ii a4,.ii a3,.str a2,.str a1,.str a0]:=⟨_,rfl⟩;have c8:=pL Fo d3;have d4:=pM Fo d1;have g2:=sM Fo g6;refine bO rfl rfl (ik (r:=[.ii kk,.ii k4,.ii a5,.ii a6,.ii a4,.ii a3,.str a2,.str a1,.str a0]) (cs:=[.ii k7]) rfl rfl rfl rfl rfl ⟨_,_,rfl⟩ rfl rfl d1 rfl Fo) ?_;refine oz ?_;refine gs (gB (rn hA 1 ?_));obtain⟨qX,g1,d7,f2,d8⟩:=add_one hA WU WV fT e3;refine mA hA d7 ?_;refine rn hA 1 (oz ?_);refine gs (gB (rn hA 3 ?_));have f0:n5 < (aaK o9:Int):=by rw[c8];exact b0
  refine nH kx f0 ?_;refine rn hA 2 ?_;obtain⟨Ua,b8⟩:∃ r,r=o9.set (aaO n5) [.ii kk,.ii k4,.ii k7,.ii qX,.ii a4,.ii a3,.str a2,.str a1,.str a0]:=⟨_,rfl⟩;have c6:=pL b8 c8;have c5:=pM b8 d4;have f7:=sM b8 g2;refine bO rfl rfl (ik (r:=[.ii kk,.ii k4,.ii k7,.ii a6,.ii a4,.ii a3,.str a2,.str a1,.str a0]) (cs:=[.ii qX]) rfl rfl rfl rfl rfl ⟨_,_,rfl⟩ rfl rfl d4 rfl b8) ?_;refine oz ?_;refine gs (gB (rn hA 1 ?_));obtain⟨Bp,n0,k2,m4,l9⟩:=add_one hA f2 d8 dS e4;refine mA hA k2 ?_;refine rn hA 1 (oz ?_);refine gs (gB (rn hA 3 ?_));have l5:n5 < (aaK Ua:Int):=by rw[c6];exact b0
  refine nH kx l5 ?_;refine rn hA 2 ?_;obtain⟨Ub,b4⟩:∃ r,r=Ua.set (aaO n5) [.ii kk,.ii k4,.ii k7,.ii qX,.ii Bp,.ii a3,.str a2,.str a1,.str a0]:=⟨_,rfl⟩;have d6:=pL b4 c6;have d9:=pM b4 c5;have f3:=sM b4 f7;refine bO rfl rfl (ik (r:=[.ii kk,.ii k4,.ii k7,.ii qX,.ii a4,.ii a3,.str a2,.str a1,.str a0]) (cs:=[.ii Bp]) rfl rfl rfl rfl rfl ⟨_,_,rfl⟩ rfl rfl c5 rfl b4) ?_;refine oz ?_;refine gs (gB (rn hA 1 ?_));obtain⟨Fp,m7,l3,n1,m2⟩:=add_one hA m4 l9 gh e5;refine mA hA l3 ?_;refine rn hA 1 (oz ?_);refine gs (gB (rn hA 3 ?_));have j9:n5 < (aaK Ub:Int):=by rw[d6];exact b0
  refine nH kx j9 ?_;refine rn hA 2 ?_;obtain⟨o18,f9⟩:∃ r,r=Ub.set (aaO n5) [.ii kk,.ii k4,.ii k7,.ii qX,.ii Bp,.ii Fp,.str a2,.str a1,.str a0]:=⟨_,rfl⟩;have i3:=pL f9 d6;have i1:=pM f9 d9;have k8:=sM f9 f3;refine bO rfl rfl (ik (r:=[.ii kk,.ii k4,.ii k7,.ii qX,.ii Bp,.ii a3,.str a2,.str a1,.str a0]) (cs:=[.ii Fp]) rfl rfl rfl rfl rfl ⟨_,_,rfl⟩ rfl rfl d9 rfl f9) ?_;refine oz ?_;refine gs (gB (rn hA 1 ?_));obtain⟨k19,n4,l8,j0,j7⟩:=add_one hA n1 m2 kr e6;refine mA hA l8 ?_;refine rn hA 1 (oz ?_);refine gs (gB (rn hA 3 ?_));obtain⟨b3,i9,m3⟩:=fe (ic A hA k19 j0 (A6 j7 e6));refine aH m3 (.inr rfl) ?_;have l2:n5 < (aaK o18:Int):=by rw[i3];exact b0
  refine nH kx l2 ?_;refine rn hA 2 ?_;obtain⟨o23,f6⟩:∃ r,r=o18.set (aaO n5) [.ii kk,.ii k4,.ii k7,.ii qX,.ii Bp,.ii Fp,.str b3,.str a1,.str a0]:=⟨_,rfl⟩;have i2:=pL f6 i3;have i0:=pM f6 i1;have k9:=sM f6 k8;refine bO rfl rfl (ik (r:=[.ii kk,.ii k4,.ii k7,.ii qX,.ii Bp,.ii Fp,.str a2,.str a1,.str a0]) (cs:=[.str b3]) rfl rfl rfl rfl rfl ⟨_,_,rfl⟩ rfl rfl i1 rfl f6) ?_;refine oz ?_;refine gs (gB (rn hA 1 ?_));obtain⟨k24,n6,l1,j3,j1⟩:=add_one hA j0 j7 kv e7;refine mA hA l1 ?_;refine rn hA 1 (oz ?_);refine gs (gB (rn hA 3 ?_));obtain⟨b6,i7,m8⟩:=fe (ic A hA k24 j3 (A6 j1 e7));refine aH m8 (.inr rfl) ?_;have j8:n5 < (aaK o23:Int):=by rw[i2];exact b0
  refine nH kx j8 ?_;refine rn hA 2 ?_;obtain⟨o28,f8⟩:∃ r,r=o23.set (aaO n5) [.ii kk,.ii k4,.ii k7,.ii qX,.ii Bp,.ii Fp,.str b3,.str b6,.str a0]:=⟨_,rfl⟩;have i5:=pL f8 i2;have i4:=pM f8 i0;have k0:=sM f8 k9;refine bO rfl rfl (ik (r:=[.ii kk,.ii k4,.ii k7,.ii qX,.ii Bp,.ii Fp,.str b3,.str a1,.str a0]) (cs:=[.str b6]) rfl rfl rfl rfl rfl ⟨_,_,rfl⟩ rfl rfl i0 rfl f8) ?_;refine oz ?_;refine gs (gB (rn hA 1 ?_));obtain⟨k29,m5,l6,j2,j5⟩:=add_one hA j3 j1 kt e8;refine mA hA l6 ?_;refine rn hA 1 (oz ?_);refine gs (gB (rn hA 3 ?_));obtain⟨d2,i8,n3⟩:=fe (ic A hA k29 j2 (A6 j5 e8));refine aH n3 (.inr rfl) ?_;have k5:n5 < (aaK o28:Int):=by rw[i5];exact b0
  refine nH kx k5 ?_;refine rn hA 2 ?_;obtain⟨o33,f5⟩:∃ r,r=o28.set (aaO n5) [.ii kk,.ii k4,.ii k7,.ii qX,.ii Bp,.ii Fp,.str b3,.str b6,.str d2]:=⟨_,rfl⟩;have n9:=pL f5 i5;have n8:=pM f5 i4;have l7:=sM f5 k0;refine bO rfl rfl (ik (r:=[.ii kk,.ii k4,.ii k7,.ii qX,.ii Bp,.ii Fp,.str b3,.str b6,.str a0]) (cs:=[.str d2]) rfl rfl rfl rfl rfl ⟨_,_,rfl⟩ rfl rfl i4 rfl f5) ?_;refine oz ?_;refine gB (rn hA 1 ?_);obtain⟨k34,m9,l4,o0,m0⟩:=add_one hA j2 j5 pr e9;refine mA hA l4 ?_;refine rn hA 1 (oz ?_);refine gB (rn hA 1 ?_);refine rn hA 1 ?_;refine rn hA 1 (oz ?_);refine⟨_,_,?_,by cbv,i+1,o33,(A.num .add .i64 n5 1),k34,rfl,?_,rfl⟩
  ·
   exact hdec
  have hrow:([.ii kk,.ii k4,.ii k7,.ii qX,.ii Bp,.ii Fp,.str b3,.str b6,.str d2]:List PV)=da (xx kk (⟨c0,⟨a8,a5,a6,a4,a3,a2,a1,a0⟩⟩:ae)):=by
   subst WQ WT g1 n0 m7 n4 n6 m5 m9;show _=([_,_,_,_,_,_,_,_,_]:List PV);exact congr (congrArg abC (congrArg (PV.int .i64) rfl)) (congr (congrArg abC (congrArg (PV.int .i64) rfl)) (congr (congrArg abC (congrArg (PV.int .i64) rfl)) (congr (congrArg abC (congrArg (PV.int .i64) rfl)) (congr (congrArg abC (congrArg (PV.int .i64) rfl)) (congr (congrArg abC (congrArg (PV.int .i64) rfl)) (congr (congrArg abC (congrArg PV.str i9)) (congr (congrArg abC (congrArg PV.str i7)) (congr (congrArg abC (congrArg PV.str i8)) (rfl)))))))))
  refine⟨d5,nU,B6 m0 pq hrce hkk cat,?_⟩;rw[l7,hrow,b7,jY,OY k hyi,<- hkk];exact Dp (hlen.symm.trans (abb i).symm)
 have aV:(A.ao ro)<=n5:=aQ hA c1;refine aI (gE ?_);refine gs (gB (rn hA 2 (oz ?_)));refine kT ⟨⟨rfl,trivial⟩,acv (b:=some [.ow 9 ro,.ii k]) (by cbv) ?_,_,by cbv,?_⟩
 ·
  rw[hro,aaU (by omega),abk (by omega),abm]
 refine congrArg (PV.int .i64) ?_;rw[hkk,aaU (by omega)]
def Zv (hv:Nat->Value)(p0 p1:Int)(p2:RR):St:={sl:=.own 1000000000::.ii p0::dV++.ii p1::NN,bl:=[(1000000000,⟨.arr,4,p2⟩)],hd:=[(1000000000,hv 1000000000)]}
theorem Fq (A:ax)(hA:A=aj)(x:List bu)(k:Int)(h0:0<=k)(h1:k+bK x<=1099511627776):fo Tryz.prog 79 [.ow 4 (aaN bW x),.ii k] [.ow 4 (aaN bW (ft k x)),.ii k] (.ii (k+bK x)):=by
 obtain⟨gC,b1,f1⟩:=nr hA bW x;refine jE (eR:=[.ow 4 gC,.ii k]) (by subst b1;rfl) rfl ?_;have h2:(aaK x:Int)<=1099511627776:=by have:=A7 x;omega
 refine rR nQ Tryz.func79 (by kernel_rfl) (lP rfl (by cbv) (λhv=>?_));refine gs (gB (rn hA 1 (oz ?_)));refine gs (gs (gB (rn hA 1 (oz ?_))));refine af ?_;refine aF (λσ m=>∃(i:Nat) (ro:RR) (n5 kk:Int),σ=(Zv hv kk n5 ro)/\(n5=(i:Int)/\i<=aaK x/\kk=k+bK (x.take i)/\ro=aaN bW (ft k (x.take i)++x.drop i))/\m=aaK x - i) _ [] [0,1,5] [1000000000] _ rfl (by cbv) ⟨0,gC,0,k,rfl,?_,rfl⟩ (λσ m hI=>?_)
 ·
  exact⟨rfl,aaW _,by simp[bK],b1⟩
 obtain⟨i,ro,n5,kk,rfl,⟨jY,hi,hkk,hro⟩,rfl⟩:=hI;have hlro:(aaK ro:Int)=aaK x:=by
  rw[hro];simp only[aaS,aaY,oN,aa1,abo];omega
 have lro:A.ao ro=(aaK x:Int):=by
  rw[ab hA hro];simp only[aaY,oN,aa1,abo];omega
 refine gs (gs (gB (rn hA 4 (oz ?_))));refine gc (λc1=>?_) (λc1=>?_)
 ·
  have aV:n5 < (A.ao ro):=aP hA c1;refine gk (gs (af (gs ?_)));have kx:(0:Int)<=n5:=by omega
  have hlt:aaO n5 < aaK x:=by omega
  obtain⟨y,hy⟩:∃ y,x[aaO n5]? =some y:=⟨_,aa7 hlt⟩;have hyi:x[i]? =some y:=by have h:=hy;rw[jY] at h;exact h
  have cat:=Iu hyi;have cle:=Iv x (i+1);have cnn:=gM (x.take i);have cce:mV y=_:=rfl;have b7:ro=aaN bW (ft k (x.take i)++y::x.drop (i+1)):=by
   rw[hro,<- tR hyi]
  have c4:ro[aaO n5]? =some (bW y):=by
   rw[b7,jY];exact Dq (by rw[oN,aa1];omega)
  obtain⟨c7,b5,b2,a9⟩:=y;obtain⟨a7,c3,k1⟩:=nr hA da a9;have hzro:ro[aaO n5]? =some [.ii c7,.ii b5,.ii b2,.ow 9 a7]:=by subst c3;exact c4
  have b9:=lH a9;have cce:mV (⟨c7,b5,b2,a9⟩:bu)=1+1+1+cO a9:=rfl;obtain⟨r4,gh,e4⟩:∃ r:Int,r=0/\0<=r:=⟨0,rfl,by decide⟩;obtain⟨r3,dS,e3⟩:∃ r:Int,r=cO a9+r4/\0<=r:=⟨_,rfl,fA b9 e4⟩;obtain⟨r2,fT,e2⟩:∃ r:Int,r=1+r3/\0<=r:=⟨_,rfl,fA (by decide) e3⟩;obtain⟨r1,ep,e1⟩:∃ r:Int,r=1+r2/\0<=r:=⟨_,rfl,fA (by decide) e2⟩;obtain⟨r0,dQ,e0⟩:∃ r:Int,r=1+r1/\0<=r:=⟨_,rfl,fA (by decide) e1⟩;have p0:0<=kk:=by clear gh e4 dS e3 fT e2 ep e1 dQ e0;omega
  have hrce:r0=mV (⟨c7,b5,b2,a9⟩:bu):=by subst gh dS fT ep dQ;rw[cce];omega
  have q0:kk+r0<=1099511627776/\kk+r0=kk+r0:=⟨by clear gh e4 dS e3 fT e2 ep e1 dQ e0;omega,rfl⟩;have b0:n5 < (aaK x:Int):=by clear gh e4 dS e3 fT e2 ep e1 dQ e0;omega
  have nU:i+1<=aaK x:=by clear gh e4 dS e3 fT e2 ep e1 dQ e0;omega
  have d5:A.num .add .i64 n5 1=((i+1:Nat):Int):=by
   clear gh e4 dS e3 fT e2 ep e1 dQ e0;rw[au hA (by omega) (by omega)];omega
  have hlen:i=aaK (ft k (x.take i)):=by rw[oN,aa1];clear gh e4 dS e3 fT e2 ep e1 dQ e0;omega
  have hdec:aaK x - (i+1) < aaK x - i:=by clear gh e4 dS e3 fT e2 ep e1 dQ e0;omega
  refine gB (rn hA 3 ?_);have g5:n5 < (aaK ro:Int):=by rw[hlro];exact b0
  refine nH kx g5 ?_;refine rn hA 1 ?_;obtain⟨o3,Fl⟩:∃ r,r=ro.set (aaO n5) [.ii kk,.ii b5,.ii b2,.ow 9 a7]:=⟨_,rfl⟩;have c9:=pL Fl hlro;have d0:=pM Fl hzro;have g3:=Fl;refine bO rfl rfl (ik (r:=[.ii c7,.ii b5,.ii b2,.ow 9 a7]) (cs:=[.ii kk]) rfl rfl rfl rfl rfl ⟨_,_,rfl⟩ rfl rfl hzro rfl Fl) ?_;refine oz ?_;refine gs (gB (rn hA 1 ?_));obtain⟨k4,WQ,g4,WR,WS⟩:=add_one hA p0 q0 dQ e1;refine mA hA g4 ?_;refine rn hA 1 (oz ?_);refine gs (gB (rn hA 3 ?_));have g7:n5 < (aaK o3:Int):=by rw[c9];exact b0
  refine nH kx g7 ?_;refine rn hA 1 ?_;obtain⟨o6,Fm⟩:∃ r,r=o3.set (aaO n5) [.ii kk,.ii k4,.ii b2,.ow 9 a7]:=⟨_,rfl⟩;have d3:=pL Fm c9;have d1:=pM Fm d0;have g6:=sM Fm g3;refine bO rfl rfl (ik (r:=[.ii kk,.ii b5,.ii b2,.ow 9 a7]) (cs:=[.ii k4]) rfl rfl rfl rfl rfl ⟨_,_,rfl⟩ rfl rfl d0 rfl Fm) ?_;refine oz ?_;refine gs (gB (rn hA 1 ?_));obtain⟨k7,WT,g8,WU,WV⟩:=add_one hA WR WS ep e2;refine mA hA g8 ?_;refine rn hA 1 (oz ?_);refine gs (gB (rn hA 3 ?_));have g9:n5 < (aaK o6:Int):=by rw[d3];exact b0
  refine nH kx g9 ?_;refine rn hA 1 ?_;obtain⟨o9,Fo⟩:∃ r,r=o6.set (aaO n5) [.ii kk,.ii k4,.ii k7,.ow 9 a7]:=⟨_,rfl⟩;have c8:=pL Fo d3;have d4:=pM Fo d1;have g2:=sM Fo g6;refine bO rfl rfl (ik (r:=[.ii kk,.ii k4,.ii b2,.ow 9 a7]) (cs:=[.ii k7]) rfl rfl rfl rfl rfl ⟨_,_,rfl⟩ rfl rfl d1 rfl Fo) ?_;refine oz ?_;refine gs (gB (rn hA 1 ?_));obtain⟨qX,g1,d7,f2,d8⟩:=add_one hA WU WV fT e3;refine mA hA d7 ?_;refine rn hA 1 (oz ?_);refine gB (rn hA 2 ?_);have f0:n5 < (aaK o9:Int):=by rw[c8];exact b0
  refine nH kx f0 ?_;refine rn hA 1 ?_;refine PI rfl rfl rfl rfl rfl rfl rfl d4 rfl rfl (λIL Ua b8=>?_);have c6:=pL b8 c8;have c5:=pM b8 d4;have f7:=sM b8 g2;refine rn hA 1 ?_;obtain⟨i6,m14,g0,j6,l0⟩:=uQ [.ow 9 a7,.ii qX] (aaN da (fW qX a9)) (qX+cO a9) qX (by subst c3;exact DS A hA a9 qX f2 (TY d8 dS e4));have n7:=ab hA g0;have k3:=QA j6 f2 d8 dS b9;refine iJ rfl (by cbv) (by cbv) (by cbv) l0 rfl (by cbv) ?_;refine rn hA 1 ?_;obtain⟨Ub,b4⟩:∃ r,r=Ua.set (aaO n5) [.ii kk,.ii k4,.ii k7,.ow 9 i6]:=⟨_,rfl⟩;have d6:=pL b4 c6;have d9:=pM b4 c5;have f3:=sM b4 f7;refine bY (Mf (D:=37) (d:=1000000000) (i:=(aaO n5)) (j:=3) rfl rfl rfl c5 rfl (by decide) b4 rfl) ?_;refine gB (rn hA 1 ?_);refine rn hA 1 ?_;refine rn hA 1 (oz ?_);refine⟨_,_,?_,by cbv,i+1,Ub,(A.num .add .i64 n5 1),m14,rfl,?_,rfl⟩
  ·
   exact hdec
  have hrow:([.ii kk,.ii k4,.ii k7,.ow 9 i6]:List PV)=bW (B7 kk (⟨c7,b5,b2,a9⟩:bu)):=by
   subst WQ WT g1 j6;show _=([_,_,_,_]:List PV);exact congr (congrArg abC (congrArg (PV.int .i64) rfl)) (congr (congrArg abC (congrArg (PV.int .i64) rfl)) (congr (congrArg abC (congrArg (PV.int .i64) rfl)) (congr (congrArg abC (congrArg (PV.ow 9) g0)) (rfl))))
  refine⟨d5,nU,B6 k3.2 gh hrce hkk cat,?_⟩;rw[f3,hrow,b7,jY,QX k hyi,<- hkk];exact Dp (hlen.symm.trans (abb i).symm)
 have aV:(A.ao ro)<=n5:=aQ hA c1;refine aI (gE ?_);refine gs (gB (rn hA 2 (oz ?_)));refine kT ⟨⟨rfl,trivial⟩,acv (b:=some [.ow 4 ro,.ii k]) (by cbv) ?_,_,by cbv,?_⟩
 ·
  rw[hro,aaU (by omega),abk (by omega),abm]
 refine congrArg (PV.int .i64) ?_;rw[hkk,aaU (by omega)]
def Zw (hv:Nat->Value)(p0 p1:Int)(p2:RR):St:={sl:=.own 1000000000::.ii p0::dV++.ii p1::Vu,bl:=[(1000000000,⟨.arr,17,p2⟩)],hd:=[(1000000000,hv 1000000000)]}
theorem zQ (A:ax)(hA:A=aj)(x:List fi)(k:Int)(h0:0<=k)(h1:k+cK x<=1099511627776)(vx:aaK x=0):fo Tryz.prog 21 [.ow 17 (aaN gA x),.ii k] [.ow 17 (aaN gA (iZ k x)),.ii k] (.ii (k+cK x)):=by
 obtain⟨gC,a0,a1⟩:=nr hA gA x;refine jE (eR:=[.ow 17 gC,.ii k]) (by subst a0;rfl) rfl ?_;have h2:(aaK x:Int)<=1099511627776:=by have:=sK x;omega
 refine rR nQ Tryz.func21 (by kernel_rfl) (lP rfl (by cbv) (λhv=>?_));refine gs (gB (rn hA 1 (oz ?_)));refine gs (gs (gB (rn hA 1 (oz ?_))));refine af ?_;refine aF (λσ m=>∃(i:Nat) (ro:RR) (n5 kk:Int),σ=(Zw hv kk n5 ro)/\(n5=(i:Int)/\i<=aaK x/\kk=k+cK (x.take i)/\ro=aaN gA (iZ k (x.take i)++x.drop i))/\m=aaK x - i) _ [] [0,1,5] [1000000000] _ rfl (by cbv) ⟨0,gC,0,k,rfl,?_,rfl⟩ (λσ m hI=>?_)
 ·
  exact⟨rfl,aaW _,by simp[cK],a0⟩
 obtain⟨i,ro,n5,kk,rfl,⟨jY,hi,hkk,hro⟩,rfl⟩:=hI;have hlro:(aaK ro:Int)=aaK x:=by
  rw[hro];simp only[aaS,aaY,oO,aa1,abo];omega
 have lro:A.ao ro=(aaK x:Int):=by
  rw[ab hA hro];simp only[aaY,oO,aa1,abo];omega
 refine gs (gs (gB (rn hA 4 (oz ?_))));refine gc (λc1=>?_) (λc1=>?_)
 ·
  have aV:n5 < (A.ao ro):=aP hA c1;omega
 have aV:(A.ao ro)<=n5:=aQ hA c1;refine aI (gE ?_);refine gs (gB (rn hA 2 (oz ?_)));refine kT ⟨⟨rfl,trivial⟩,acv (b:=some [.ow 17 ro,.ii k]) (by cbv) ?_,_,by cbv,?_⟩
 ·
  rw[hro,aaU (by omega),abk (by omega),abm]
 refine congrArg (PV.int .i64) ?_;rw[hkk,aaU (by omega)]
theorem Fs (A:ax)(hA:A=aj)(x:bj)(k:Int)(h0:0<=k)(h1:k+E0 x<=1099511627776)(ja:aaK x.Cache=0):fo Tryz.prog 78 [.agg (jo x),.ii k] [.agg (jo (QB k x)),.ii k] (.ii (k+aB x.aD+bh x.Cache)):=by
 obtain⟨c3,c7⟩:=x;obtain⟨f1,e9,j5⟩:=nr hA ah c3;obtain⟨g1,f4,j7⟩:=nr hA aU c7;refine jE (eR:=[.agg [.ow 1 f1,.ow 2 g1],.ii k]) (by subst e9 f4;rfl) rfl ?_;have h1:k+(aB c3+bh c7)<=1099511627776:=h1;have Ld:=de c3;have Le:=fw c7;have ja:aaK c7=0:=ja;refine rR nQ Tryz.func78 (by kernel_rfl) (lP rfl (by cbv) (λhv=>?_));refine gs (gB (rn hA 2 (oz ?_)));refine gs (gB (rn hA 3 ?_));obtain⟨c6,m1,b9,oZ,f3⟩:=uQ [.ow 1 f1,.ii k] (aaN ah (cD k c3)) (k+aB c3) k (by subst e9;exact sr A hA c3 k (by omega) (by omega));have g9:=ab hA b9;have i7:=de c3;have WW:0<=m1:=by omega
 refine iJ rfl (by cbv) (by cbv) (by cbv) f3 rfl (by cbv) ?_;refine rn hA 1 (oz ?_);refine gs (gB (rn hA 3 ?_));obtain⟨k5,m3,g7,hm3,k8⟩:=uQ [.ow 2 g1,.ii m1] (aaN aU (fM m1 c7)) (m1+bh c7) m1 (by subst f4;exact Cm A hA c7 m1 (by omega) (by omega) (by omega));have l4:=ab hA g7;have j3:=fw c7;have nm3:0<=m3:=by omega
 refine iJ rfl (by cbv) (by cbv) (by cbv) k8 rfl (by cbv) ?_;refine rn hA 1 (oz ?_);refine gs (gB (rn hA 2 (oz ?_)));refine kT ⟨⟨rfl,rfl,trivial⟩,acv (b:=some [.agg [.ow 1 c6,.ow 2 k5],.ii k]) (by cbv) ?_,_,by cbv,?_⟩
 ·
  subst b9 oZ g7 hm3;rfl
 show _=(PV.int .i64 m3);subst b9 oZ g7 hm3;rfl
theorem GQ (A:ax)(hA:A=aj)(x:bF)(k:Int)(h0:0<=k)(h1:k+JR x<=1099511627776)(ja:aaK x.ba.Cache=0):fo Tryz.prog 37 [.agg (rV x),.ii k] [.agg (rV (TZ k x)),.ii k] (.ii (k+aB x.ba.aD+bh x.ba.Cache+bK x.Used)):=by
 obtain⟨⟨a5,b0⟩,i5,d8,f9,f8,g4,f2⟩:=x;obtain⟨d9,d7,i6⟩:=nr hA ah a5;obtain⟨e3,e2,j0⟩:=nr hA aU b0;obtain⟨g3,f6,k0⟩:=nr hA bW d8;refine jE (eR:=[.agg [.ow 1 d9,.ow 2 e3,.ii i5,.ow 4 g3,.ii f9,.ii f8,.ii g4,.ii f2],.ii k]) (by subst d7 e2 f6;rfl) rfl ?_;have h1:k+(aB a5+bh b0+bK d8)<=1099511627776:=h1;have Ld:=de a5;have Le:=fw b0;have QC:=gM d8;have ja:aaK b0=0:=ja;refine rR nQ Tryz.func37 (by kernel_rfl) (lP rfl (by cbv) (λhv=>?_));refine gs (gB (rn hA 2 (oz ?_)));refine gs (gB (rn hA 3 ?_));have j4:E0 (⟨a5,b0⟩:bj)=aB a5+bh b0:=rfl;obtain⟨c6,d1,m1,b9,d0,oZ,f3⟩:∃(c6 d1:RR) (m1:Int),c6=aaN ah (cD (k) a5)/\d1=aaN aU (fM (k+aB a5) b0)/\m1=k+aB a5+bh b0/\fo Tryz.prog 78 [.agg [.ow 1 d9,.ow 2 e3],.ii k] [.agg [.ow 1 c6,.ow 2 d1],.ii k] (.ii m1):=⟨_,_,_,rfl,rfl,rfl,by subst d7 e2;exact Fs A hA (⟨a5,b0⟩:bj) k (by omega) (by omega) (by omega)⟩;have g9:=ab hA b9;have i9:=ab hA d0;have i7:=de a5;have j6:=fw b0;have WW:0<=m1:=by omega
 refine iJ rfl (by cbv) (by cbv) (by cbv) f3 rfl (by cbv) ?_;refine rn hA 1 (oz ?_);refine gs (gB (rn hA 3 ?_));obtain⟨k7,m4,i0,hm4,k3⟩:=uQ [.ow 4 g3,.ii m1] (aaN bW (ft m1 d8)) (m1+bK d8) m1 (by subst f6;exact Fq A hA d8 m1 (by omega) (by omega));have l0:=ab hA i0;have k2:=gM d8;have nm4:0<=m4:=by omega
 refine iJ rfl (by cbv) (by cbv) (by cbv) k3 rfl (by cbv) ?_;refine rn hA 1 (oz ?_);refine gs (gB (rn hA 2 (oz ?_)));refine kT ⟨⟨rfl,rfl,rfl,trivial⟩,acv (b:=some [.agg [.ow 1 c6,.ow 2 d1,.ii i5,.ow 4 k7,.ii f9,.ii f8,.ii g4,.ii f2],.ii k]) (by cbv) ?_,_,by cbv,?_⟩
 ·
  subst b9 d0 oZ i0 hm4;rfl
 show _=(PV.int .i64 m4);subst b9 d0 oZ i0 hm4;rfl
theorem DT (A:ax)(hA:A=aj)(x:aK)(k:Int)(h0:0<=k)(h1:k+B8 x<=1099511627776)(ja:aaK x.Log.ba.Cache=0)(nX:aaK x.cW=0):fo Tryz.prog 20 [.agg (kP x),.ii k] [.agg (kP (MZ k x)),.ii k] (.ii (k+aB x.Log.ba.aD+bh x.Log.ba.Cache+bK x.Log.Used+dC x.cW)):=by
 obtain⟨⟨⟨a2,a3⟩,c5,b4,b6,b5,c1,b3⟩,c8⟩:=x;obtain⟨d2,c9,g5⟩:=nr hA ah a2;obtain⟨d6,d4,i3⟩:=nr hA aU a3;obtain⟨f0,e6,j1⟩:=nr hA bW b4;obtain⟨f7,f5,j9⟩:=nr hA bq c8;refine jE (eR:=[.agg [.ow 1 d2,.ow 2 d6,.ii c5,.ow 4 f0,.ii b6,.ii b5,.ii c1,.ii b3,.ow 1 f7],.ii k]) (by subst c9 d4 e6 f5;rfl) rfl ?_;have h1:k+(aB a2+bh a3+bK b4+dC c8)<=1099511627776:=h1;have Ld:=de a2;have Le:=fw a3;have QC:=gM b4;have Wi:=kN c8;have ja:aaK a3=0:=ja;have nX:aaK c8=0:=nX;refine rR nQ Tryz.func20 (by kernel_rfl) (lP rfl (by cbv) (λhv=>?_));refine gs (gB (rn hA 2 (oz ?_)));refine gs (gB (rn hA 3 ?_));have j4:JR (⟨⟨a2,a3⟩,c5,b4,b6,b5,c1,b3⟩:bF)=aB a2+bh a3+bK b4:=rfl;obtain⟨c6,d1,e5,m1,b9,d0,e4,oZ,f3⟩:∃(c6 d1 e5:RR) (m1:Int),c6=aaN ah (cD (k) a2)/\d1=aaN aU (fM (k+aB a2) a3)/\e5=aaN bW (ft (k+aB a2+bh a3) b4)/\m1=k+aB a2+bh a3+bK b4/\fo Tryz.prog 37 [.agg [.ow 1 d2,.ow 2 d6,.ii c5,.ow 4 f0,.ii b6,.ii b5,.ii c1,.ii b3],.ii k] [.agg [.ow 1 c6,.ow 2 d1,.ii c5,.ow 4 e5,.ii b6,.ii b5,.ii c1,.ii b3],.ii k] (.ii m1):=⟨_,_,_,_,rfl,rfl,rfl,rfl,by subst c9 d4 e6;exact GQ A hA (⟨⟨a2,a3⟩,c5,b4,b6,b5,c1,b3⟩:bF) k (by omega) (by omega) (by omega)⟩;have g9:=ab hA b9;have i9:=ab hA d0;have j8:=ab hA e4;have i7:=de a2;have j6:=fw a3;have j3:=gM b4;have WW:0<=m1:=by omega
 refine iJ rfl (by cbv) (by cbv) (by cbv) f3 rfl (by cbv) ?_;refine rn hA 1 (oz ?_);refine gs (gB (rn hA 3 ?_));obtain⟨k9,m5,g8,QY,k4⟩:=uQ [.ow 1 f7,.ii m1] (aaN bq (kY m1 c8)) (m1+dC c8) m1 (by subst f5;exact Fk A hA c8 m1 (by omega) (by omega) (by omega));have l3:=ab hA g8;have l5:=kN c8;have nm5:0<=m5:=by omega
 refine iJ rfl (by cbv) (by cbv) (by cbv) k4 rfl (by cbv) ?_;refine rn hA 1 (oz ?_);refine gs (gB (rn hA 2 (oz ?_)));refine kT ⟨⟨rfl,rfl,rfl,rfl,trivial⟩,acv (b:=some [.agg [.ow 1 c6,.ow 2 d1,.ii c5,.ow 4 e5,.ii b6,.ii b5,.ii c1,.ii b3,.ow 1 k9],.ii k]) (by cbv) ?_,_,by cbv,?_⟩
 ·
  subst b9 d0 e4 oZ g8 QY;rfl
 show _=(PV.int .i64 m5);subst b9 d0 e4 oZ g8 QY;rfl
theorem Cl (A:ax)(hA:A=aj)(x:gv)(k:Int)(h0:0<=k)(h1:k+uH x<=1099511627776)(ja:aaK x.aN.Log.ba.Cache=0)(nX:aaK x.aN.cW=0)(Ix:aaK x.dg=0):fo Tryz.prog 11 [.agg (yX x),.ii k] [.agg (yX (Lh k x)),.ii k] (.ii (k+aB x.aN.Log.ba.aD+bh x.aN.Log.ba.Cache+bK x.aN.Log.Used+dC x.aN.cW+cK x.dg)):=by
 obtain⟨⟨⟨⟨a0,a1⟩,b2,a4,a8,a9,b1,a6⟩,a7⟩,b7⟩:=x;obtain⟨c0,b8,g0⟩:=nr hA ah a0;obtain⟨c4,c2,g2⟩:=nr hA aU a1;obtain⟨d5,d3,i4⟩:=nr hA bW a4;obtain⟨e1,e0,i8⟩:=nr hA bq a7;obtain⟨e8,e7,j2⟩:=nr hA gA b7;refine jE (eR:=[.agg [.ow 1 c0,.ow 2 c4,.ii b2,.ow 4 d5,.ii a8,.ii a9,.ii b1,.ii a6,.ow 1 e1,.ow 17 e8],.ii k]) (by subst b8 c2 d3 e0 e7;rfl) rfl ?_;have h1:k+(aB a0+bh a1+bK a4+dC a7+cK b7)<=1099511627776:=h1;have Ld:=de a0;have Le:=fw a1;have QC:=gM a4;have Wi:=kN a7;have nn9:=lz b7;have ja:aaK a1=0:=ja;have nX:aaK a7=0:=nX;have Ix:aaK b7=0:=Ix;refine rR nQ Tryz.func11 (by kernel_rfl) (lP rfl (by cbv) (λhv=>?_));refine gs (gB (rn hA 2 (oz ?_)));refine gs (gB (rn hA 3 ?_));have j4:B8 (⟨⟨⟨a0,a1⟩,b2,a4,a8,a9,b1,a6⟩,a7⟩:aK)=aB a0+bh a1+bK a4+dC a7:=rfl;obtain⟨c6,d1,e5,i1,m1,b9,d0,e4,i2,oZ,f3⟩:∃(c6 d1 e5 i1:RR) (m1:Int),c6=aaN ah (cD (k) a0)/\d1=aaN aU (fM (k+aB a0) a1)/\e5=aaN bW (ft (k+aB a0+bh a1) a4)/\i1=aaN bq (kY (k+aB a0+bh a1+bK a4) a7)/\m1=k+aB a0+bh a1+bK a4+dC a7/\fo Tryz.prog 20 [.agg [.ow 1 c0,.ow 2 c4,.ii b2,.ow 4 d5,.ii a8,.ii a9,.ii b1,.ii a6,.ow 1 e1],.ii k] [.agg [.ow 1 c6,.ow 2 d1,.ii b2,.ow 4 e5,.ii a8,.ii a9,.ii b1,.ii a6,.ow 1 i1],.ii k] (.ii m1):=⟨_,_,_,_,_,rfl,rfl,rfl,rfl,rfl,by subst b8 c2 d3 e0;exact DT A hA (⟨⟨⟨a0,a1⟩,b2,a4,a8,a9,b1,a6⟩,a7⟩:aK) k (by omega) (by omega) (by omega) (by omega)⟩;have g9:=ab hA b9;have i9:=ab hA d0;have j8:=ab hA e4;have l1:=ab hA i2;have i7:=de a0;have j6:=fw a1;have j3:=gM a4;have k2:=kN a7;have WW:0<=m1:=by omega
 refine iJ rfl (by cbv) (by cbv) (by cbv) f3 rfl (by cbv) ?_;refine rn hA 1 (oz ?_);refine gs (gB (rn hA 3 ?_));obtain⟨k1,m6,g6,Fb,k6⟩:=uQ [.ow 17 e8,.ii m1] (aaN gA (iZ m1 b7)) (m1+cK b7) m1 (by subst e7;exact zQ A hA b7 m1 (by omega) (by omega) (by omega));have l2:=ab hA g6;have l6:=lz b7;have nm6:0<=m6:=by omega
 refine iJ rfl (by cbv) (by cbv) (by cbv) k6 rfl (by cbv) ?_;refine rn hA 1 (oz ?_);refine gs (gB (rn hA 2 (oz ?_)));refine kT ⟨⟨rfl,rfl,rfl,rfl,rfl,trivial⟩,acv (b:=some [.agg [.ow 1 c6,.ow 2 d1,.ii b2,.ow 4 e5,.ii a8,.ii a9,.ii b1,.ii a6,.ow 1 i1,.ow 17 k1],.ii k]) (by cbv) ?_,_,by cbv,?_⟩
 ·
  subst b9 d0 e4 i2 oZ g6 Fb;rfl
 show _=(PV.int .i64 m6);subst b9 d0 e4 i2 oZ g6 Fb;rfl
end Go.Av

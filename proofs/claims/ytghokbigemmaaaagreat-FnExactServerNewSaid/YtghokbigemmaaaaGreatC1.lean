/- Lemmas and walks for FnExactServerNew: what each function of the program and of the reference comes to. -/
import Derived.Test.YtghokbigemmaaaaGreatB1
import Derived.Test.YtghokbigemmaaaaGreatJ1
open List renaming length→aaK,map→aaN,length_map→aaS,take_of_length_le→aaU,mem_append→aaV,mem_cons_of_mem→aaX,length_take→aa1,take_add_one→aa6,mem_flatMap→abf,length_nil→abn,nil_append→abv
open ByteArray renaming size→aaL,empty→aaM,mk→aaP
open Int renaming toNat→aaO
open Nat renaming zero_le→aaW,zero_add→abj
open Bool renaming false_eq_true→acd
namespace Go.Av
open Go Go.Proofs
set_option maxRecDepth 100000
set_option maxHeartbeats 4000000
set_option linter.unusedVariables false
set_option linter.unusedSimpArgs false
theorem MU (nv:Int)(u:ByteArray):bH (cF nv u)=K4 nv u:=by
 simp[bH,cF,K4,dm,show aaM=aaP #[] from rfl]
theorem I9 (A:ax)(hA:A=aj)(u:ByteArray)(zu:(aaL u:Int)<=4611686018427387904):al 205 [.agg [.ii 1,.str u,.str (aaP #[105,110,98,111,120]),.str aaM,.ii 0,.zc,.ii 0,.str aaM]] (.bool (xr u)):=by
 have zi:(aaL (aaP #[105,110,98,111,120]):Int)<=4611686018427387904:=by decide
 refine aY Tryz.func205 ?_;refine gx hA 2 ?_;refine gs (gs (gr (rn hA 2 ?_)));obtain⟨d8,b9,aJ⟩:=ib (pB A hA u (by first | assumption | omega));refine aH aJ (.inr rfl) ?_;refine rn hA 2 ?_;refine ag 15 rfl (λc3=>?_) (λc3=>?_)
 ·
  have c4:d8=false:=ck hA c3;refine rz hA 5 ?_;refine gc (λc5=>?_) (λc5=>?_)
  ·
   refine gx hA 1 ?_;refine rt (gt ?_);refine congrArg PV.bool ?_;subst b9;subst hA;simp[xr,cG,aj,dH,kQ,(show aaM=aaP #[] from rfl),c4]
  exact cu c5 (by rfl)
 have c6:d8=true:=cm hA c3;refine rn hA 2 ?_;obtain⟨d9,d3,jQ⟩:=ib (pB A hA (aaP #[105,110,98,111,120]) (by first | assumption | omega));refine fC jQ (.inr rfl) ?_;refine rz hA 2 ?_;refine gc (λc9=>?_) (λc9=>?_)
 ·
  have cB:d9=false:=ck hA c9;refine gx hA 1 ?_;refine rt (gt ?_);refine congrArg PV.bool ?_;subst d3 b9;subst hA;simp[xr,cG,aj,dH,kQ,(show aaM=aaP #[] from rfl),c6,cB]
 have cf:d9=true:=cm hA c9;refine gk (gx hA 1 ?_);refine gs ?_;refine cR [0,1,3,4,6,7,9,10,12,13,2,5,8,11,14] (by cbv) ?_;refine cH hA 15 ?_;refine cS (by cbv) ?_;refine gs (gx hA 2 ?_);refine af (gs (gx hA 2 ?_));refine gc (λcZ=>?_) (λcZ=>?_)
 ·
  refine gk ?_;refine gc (λeU=>?_) (λeU=>?_)
  ·
   refine gk (gs (gr (rn hA 6 ?_)));refine ag 97 rfl (λdF=>?_) (λdF=>?_)
   ·
    refine rn hA 4 ?_;refine ag 101 rfl (λeL=>?_) (λeL=>?_)
    ·
     refine rn hA 5 ?_;refine ag 106 rfl (λiA=>?_) (λiA=>?_)
     ·
      refine rn hA 4 ?_;refine ag 110 rfl (λgG=>?_) (λgG=>?_)
      ·
       refine rz hA 4 ?_;refine rt (gt ?_);show _=(PV.bool (A.nZ .eql aaM (aaP #[])));refine congrArg PV.bool ?_;subst d3 b9;subst hA;simp[xr,cG,aj,dH,kQ,(show aaM=aaP #[] from rfl),c6,cf,dF,eL,iA,gG]
      exact cu gG (by subst hA;rfl)
     exact cu iA (by subst hA;rfl)
    exact cu eL (by exact PM hA rfl)
   exact cu dF (by subst hA;rfl)
  exact cu eU (by subst hA;rfl)
 exact cu cZ (by subst hA;rfl)
theorem Ja (A:ax)(hA:A=aj)(nv:Int)(u:ByteArray)(zu:(aaL u:Int)<=4611686018427387904):al 191 [.agg [.ii 1,.ii nv,.ii 0,.ii 1,.ii 0,.str u,.str (aaP #[105,110,98,111,120]),.str aaM]] (.bool (K4 nv u)):=by
 have h:=qK A hA (cF nv u) (λq hq=>by simp[eH,cF] at hq;rcases hq with rfl | rfl | rfl<;>first | omega | decide);rw[MU] at h;exact h
theorem xt (A:ax)(hA:A=aj)(s:cY)(nv:Int)(u:ByteArray)(zu:(aaL u:Int)<=4611686018427387904)(hz:∀ q∈fJ s,q<=1048576):al 132 [.agg (jn s),.ii nv,.agg [.ii 1,.ii nv,.ii 0,.ii 1,.ii 0,.str u,.str (aaP #[105,110,98,111,120]),.str aaM]] (.bool (kE s.fF nv u)):=by
 obtain⟨a0⟩:=s;obtain⟨b3,a4,a5⟩:=nr hA iG a0;refine ak (az:=[.agg [.sl 5 b3],.ii nv,.agg [.ii 1,.ii nv,.ii 0,.ii 1,.ii 0,.str u,.str (aaP #[105,110,98,111,120]),.str aaM]]) (by subst a4;rfl) ?_;have zi:(aaL (aaP #[105,110,98,111,120]):Int)<=4611686018427387904:=by decide
 have b4:∀ q∈gW a0,q<=1048576:=λq hq=>hz q (by simp only[fJ,aaV];simp only[hq,true_or,or_true]);have d5:aaK a0<=1048576:=b4 _ (by simp[gW]);refine aY Tryz.func132 ?_;refine gx hA 3 ?_;refine gs (gs (gr (rn hA 1 ?_)));obtain⟨b5,a9,aJ⟩:=ib (Ja A hA nv u (by assumption));refine aH aJ (.inr rfl) ?_;refine rz hA 1 ?_;refine gc (λc3=>?_) (λc3=>?_)
 ·
  have c4:b5=false:=ck hA c3;refine gx hA 1 ?_;refine rt (gt ?_);refine congrArg PV.bool ?_
  try simp only[aS hA,a5] at *
  subst a9;subst hA;simp[kE,cG,aj,c4]
 have c5:b5=true:=cm hA c3;refine gk (gs (gx hA 3 ?_));refine gc (λc6=>?_) (λc6=>?_)
 ·
  refine gs (gr (rn hA 5 ?_));obtain⟨b8,d0,d1,c0,b7,b1,a2,a7,a8,a6,a1,b0,jQ⟩:=ON ((gL a0 u (aaP #[105,110,98,111,120])).Valid) ((gL a0 u (aaP #[105,110,98,111,120])).cv) ((gL a0 u (aaP #[105,110,98,111,120])).Name) ((gL a0 u (aaP #[105,110,98,111,120])).Next) (aaN fz ((gL a0 u (aaP #[105,110,98,111,120])).fQ)) (hasB a0 u (aaP #[105,110,98,111,120])) (uB A hA (⟨a0⟩:cY) u (aaP #[105,110,98,111,120]) (by assumption));have a3:=ab hA a1;refine aH jQ (.inr rfl) ?_ (hv:=by subst a4;rfl);refine rz hA 6 ?_;refine gs (gr (rn hA 5 ?_));refine ag 30 rfl (λc9=>?_) (λc9=>?_)
  ·
   refine rn hA 5 ?_;refine ag 35 rfl (λcB=>?_) (λcB=>?_)
   ·
    refine rn hA 4 ?_;refine ag 39 rfl (λcf=>?_) (λcf=>?_)
    ·
     have cZ:b1=false:=ck hA cf;refine rn hA 3 ?_;obtain⟨c2,b2,d6⟩:=qL (aaN ah (kq a0 u)) (Gu A hA (⟨a0⟩:cY) u (by assumption));have b6:=ab hA b2;refine fC d6 (.inr rfl) ?_ (hv:=by subst a4;rfl);refine rz hA 4 ?_;refine rt (gt ?_);show _=(PV.bool (A.cmp .lss (A.ao c2) 3));refine congrArg PV.bool ?_
     try simp only[aS hA,a5,a3,b6] at *
     subst b2 b0 a1 a6 a8 a7 a2 a9;subst hA;simp[kE,cG,aj,c5,c9,cB,cZ]
    have eL:b1=true:=cm hA cf;refine rz hA 8 ?_;refine rt (gt ?_);refine congrArg PV.bool ?_
    try simp only[aS hA,a5,a3] at *
    subst b0 a1 a6 a8 a7 a2 a9;subst hA;simp[kE,cG,aj,c5,c9,cB,eL]
   exact cu cB (by subst hA;rfl)
  exact cu c9 (by subst hA;simp[aj])
 exact cu c6 (by subst hA;rfl)
def Y3 (p0 p1:Int)(p2 p3 p4:ByteArray):St:={sl:=.aa::.pt 1 0 0::iB++.ii p0::Vt,bl:=[(1,⟨.var,8,[[.ii p1,.str p2,.str p3,.str p4,.ii p0,.zc,.ii p0,.str p4]]⟩)]}
theorem Jb (A:ax)(hA:A=aj)(u:ByteArray)(zu:(aaL u:Int)<=4611686018427387904):al 97 [.agg [.ii 1,.str u,.str (aaP #[105,110,98,111,120]),.str aaM,.ii 0,.zc,.ii 0,.str aaM]] (.bool (xr u)):=by
 have zi:(aaL (aaP #[105,110,98,111,120]):Int)<=4611686018427387904:=by decide
 refine aY Tryz.func97 ?_;refine gx hA 2 ?_;refine gs (gs (gr (rn hA 2 ?_)));have aJ:=et A hA 1 1 6;refine aH aJ (.inr rfl) ?_;refine rn hA 2 ?_;refine ag 11 rfl (λc3=>?_) (λc3=>?_)
 ·
  exact ay c3 (by subst hA;rfl)
 refine rn hA 2 ?_;obtain⟨d7,c1,eu⟩:=ib (nd A hA u (by first | assumption | omega));refine fC eu (.inr rfl) ?_;refine rn hA 3 ?_;refine ag 17 rfl (λc6=>?_) (λc6=>?_)
 ·
  have c7:d7=false:=ck hA c6;refine rz hA 5 ?_;refine gc (λc8=>?_) (λc8=>?_)
  ·
   refine gx hA 1 ?_;refine rt (gt ?_);refine congrArg PV.bool ?_;subst c1;subst hA;simp[xr,cG,aj,dH,kQ,(show aaM=aaP #[] from rfl),c3,c7]
  exact cu c8 (by rfl)
 have c9:d7=true:=cm hA c6;refine rn hA 2 ?_;obtain⟨d4,d2,e1⟩:=ib (nd A hA (aaP #[105,110,98,111,120]) (by first | assumption | omega));refine fC e1 (.inr rfl) ?_;refine rz hA 2 ?_;refine gc (λcZ=>?_) (λcZ=>?_)
 ·
  have eU:d4=false:=ck hA cZ;refine gx hA 1 ?_;refine rt (gt ?_);refine congrArg PV.bool ?_;subst d2 c1;subst hA;simp[xr,cG,aj,dH,kQ,(show aaM=aaP #[] from rfl),c3,c9,eU]
 have dF:d4=true:=cm hA cZ;refine gk (gx hA 4 ?_);refine gx hA 4 ?_;refine gx hA 4 ?_;refine gs (gs (gr (rn hA 3 ?_)));refine ag 34 rfl (λeL=>?_) (λeL=>?_)
 ·
  refine rn hA 5 ?_;refine ag 39 rfl (λiA=>?_) (λiA=>?_)
  ·
   exact ay iA (by exact Kh hA rfl)
  refine rn hA 2 ?_;refine ag 41 rfl (λgG=>?_) (λgG=>?_)
  ·
   exact ay gG (by subst hA;rfl)
  refine rn hA 10 ?_;refine ag 51 rfl (λiu=>?_) (λiu=>?_)
  ·
   refine rn hA 4 ?_;refine ag 55 rfl (λlY=>?_) (λlY=>?_)
   ·
    refine rn hA 6 ?_;refine ag 61 rfl (λjw=>?_) (λjw=>?_)
    ·
     exact ay jw (by subst hA;rfl)
    refine rn hA 3 ?_;refine ag 64 rfl (λqM=>?_) (λqM=>?_)
    ·
     refine rn hA 4 ?_;refine ag 68 rfl (λsm=>?_) (λsm=>?_)
     ·
      refine rn hA 6 ?_;refine ag 74 rfl (λjR=>?_) (λjR=>?_)
      ·
       exact ay jR (by subst hA;rfl)
      refine rn hA 3 ?_;refine ag 77 rfl (λjW=>?_) (λjW=>?_)
      ·
       refine rn hA 6 ?_;refine ag 83 rfl (λoV=>?_) (λoV=>?_)
       ·
        exact ay oV (by exact Kh hA rfl)
       refine rn hA 4 ?_;refine ag 87 rfl (λsW=>?_) (λsW=>?_)
       ·
        refine rz hA 6 ?_;refine gc (λpn=>?_) (λpn=>?_)
        ·
         exact ay pn (by subst hA;rfl)
        refine gk (gs (gs (gr (rn hA 2 ?_))));refine ag 95 rfl (λrj=>?_) (λrj=>?_)
        ·
         exact ay rj (by subst hA;rfl)
        refine rn hA 3 ?_;refine ag 98 rfl (λAV=>?_) (λAV=>?_)
        ·
         exact ay AV (by subst hA;rfl)
        refine rz hA 5 ?_;refine gc (λsX=>?_) (λsX=>?_)
        ·
         exact ay sX (by rfl)
        refine gk (gs (gx hA 1 ?_));refine af ?_;refine aF (λσ m=>σ=(Y3 0 1 u (aaP #[105,110,98,111,120]) aaM)/\(True)/\m=0) _ [] [1,6] [1] _ rfl (by cbv) ⟨rfl,?_,rfl⟩ (λσ m hI=>?_)
        ·
         exact trivial
        obtain⟨rfl,_,rfl⟩:=hI;refine gs (gx hA 5 ?_);refine gc (λoo=>?_) (λoo=>?_)
        ·
         exact ay oo (by subst hA;rfl)
        refine aI (gE ?_);refine gs (gr (rn hA 2 ?_));have e0:=et A hA 0 0 7;refine aH e0 (.inr rfl) ?_;refine rn hA 7 ?_;refine ag 145 rfl (λzC=>?_) (λzC=>?_)
        ·
         refine rz hA 6 ?_;refine rt (gt ?_);show _=(PV.bool (A.cmp .leq 0 8));refine congrArg PV.bool ?_;subst d2 c1;subst hA;simp[xr,cG,aj,dH,kQ,(show aaM=aaP #[] from rfl),c3,c9,dF,eL,iA,gG,iu,lY,jw,qM,sm,jR,jW,oV,sW,rj,AV,zC]
        exact cu zC (by subst hA;rfl)
       exact cu sW (by subst hA;rfl)
      exact absurd (show(A.eB (A.cmp .eql 1 3))=false from jW) (by rw[show(A.eB (A.cmp .eql 1 3))=true from by rw[show(A.cmp .eql 1 3)=false from by subst hA;rfl];subst hA;rfl];decide)
     exact absurd (show(A.eB (A.cmp .eql 1 4))=false from sm) (by rw[show(A.eB (A.cmp .eql 1 4))=true from by rw[show(A.cmp .eql 1 4)=false from by subst hA;rfl];subst hA;rfl];decide)
    exact absurd (show(A.eB (A.cmp .eql 1 3))=false from qM) (by rw[show(A.eB (A.cmp .eql 1 3))=true from by rw[show(A.cmp .eql 1 3)=false from by subst hA;rfl];subst hA;rfl];decide)
   exact absurd (show(A.eB (A.cmp .eql 1 4))=false from lY) (by rw[show(A.eB (A.cmp .eql 1 4))=true from by rw[show(A.cmp .eql 1 4)=false from by subst hA;rfl];subst hA;rfl];decide)
  exact absurd (show(A.eB (A.cmp .eql 1 6))=false from iu) (by rw[show(A.eB (A.cmp .eql 1 6))=true from by rw[show(A.cmp .eql 1 6)=false from by subst hA;rfl];subst hA;rfl];decide)
 exact absurd (show(A.eB (A.cmp .eql 1 6))=false from eL) (by rw[show(A.eB (A.cmp .eql 1 6))=true from by rw[show(A.cmp .eql 1 6)=false from by subst hA;rfl];subst hA;rfl];decide)
theorem Jc (A:ax)(hA:A=aj)(nv:Int)(u:ByteArray)(zu:(aaL u:Int)<=4611686018427387904):al 151 [.agg [.ii 1,.ii nv,.ii 0,.ii 1,.ii 0,.str u,.str (aaP #[105,110,98,111,120]),.str aaM]] (.bool (K4 nv u)):=by
 have h:=uC A hA (cF nv u) (λq hq=>by simp[eH,cF] at hq;rcases hq with rfl | rfl | rfl<;>first | omega | decide);rw[MU] at h;exact h
theorem xu (A:ax)(hA:A=aj)(s:cY)(nv:Int)(u:ByteArray)(zu:(aaL u:Int)<=4611686018427387904)(hz:∀ q∈fJ s,q<=1048576):al 99 [.agg (jn s),.ii nv,.agg [.ii 1,.ii nv,.ii 0,.ii 1,.ii 0,.str u,.str (aaP #[105,110,98,111,120]),.str aaM]] (.bool (kE s.fF nv u)):=by
 obtain⟨a0⟩:=s;obtain⟨b3,a4,a5⟩:=nr hA iG a0;refine ak (az:=[.agg [.sl 5 b3],.ii nv,.agg [.ii 1,.ii nv,.ii 0,.ii 1,.ii 0,.str u,.str (aaP #[105,110,98,111,120]),.str aaM]]) (by subst a4;rfl) ?_;have zi:(aaL (aaP #[105,110,98,111,120]):Int)<=4611686018427387904:=by decide
 have b4:∀ q∈gW a0,q<=1048576:=λq hq=>hz q (by simp only[fJ,aaV];simp only[hq,true_or,or_true]);have d5:aaK a0<=1048576:=b4 _ (by simp[gW]);refine aY Tryz.func99 ?_;refine gx hA 3 ?_;refine gs (gs (gr (rn hA 1 ?_)));obtain⟨b5,a9,aJ⟩:=ib (Jc A hA nv u (by assumption));refine aH aJ (.inr rfl) ?_;refine rz hA 1 ?_;refine gc (λc3=>?_) (λc3=>?_)
 ·
  have c4:b5=false:=ck hA c3;refine gx hA 1 ?_;refine rt (gt ?_);refine congrArg PV.bool ?_
  try simp only[aS hA,a5] at *
  subst a9;subst hA;simp[kE,cG,aj,c4]
 have c5:b5=true:=cm hA c3;refine gk (gs (gx hA 3 ?_));refine gc (λc6=>?_) (λc6=>?_)
 ·
  refine gs (gr (rn hA 5 ?_));obtain⟨b8,d0,d1,c0,b7,b1,a2,a7,a8,a6,a1,b0,jQ⟩:=ON ((gL a0 u (aaP #[105,110,98,111,120])).Valid) ((gL a0 u (aaP #[105,110,98,111,120])).cv) ((gL a0 u (aaP #[105,110,98,111,120])).Name) ((gL a0 u (aaP #[105,110,98,111,120])).Next) (aaN fz ((gL a0 u (aaP #[105,110,98,111,120])).fQ)) (hasB a0 u (aaP #[105,110,98,111,120])) (AU A hA (⟨a0⟩:cY) u (aaP #[105,110,98,111,120]) (by assumption));have a3:=ab hA a1;refine aH jQ (.inr rfl) ?_ (hv:=by subst a4;rfl);refine rz hA 6 ?_;refine gs (gr (rn hA 5 ?_));refine ag 30 rfl (λc9=>?_) (λc9=>?_)
  ·
   refine rn hA 5 ?_;refine ag 35 rfl (λcB=>?_) (λcB=>?_)
   ·
    refine rn hA 4 ?_;refine ag 39 rfl (λcf=>?_) (λcf=>?_)
    ·
     have cZ:b1=false:=ck hA cf;refine rn hA 3 ?_;obtain⟨c2,b2,d6⟩:=qL (aaN ah (kq a0 u)) (Gv A hA (⟨a0⟩:cY) u (by assumption));have b6:=ab hA b2;refine fC d6 (.inr rfl) ?_ (hv:=by subst a4;rfl);refine rz hA 4 ?_;refine rt (gt ?_);show _=(PV.bool (A.cmp .lss (A.ao c2) 3));refine congrArg PV.bool ?_
     try simp only[aS hA,a5,a3,b6] at *
     subst b2 b0 a1 a6 a8 a7 a2 a9;subst hA;simp[kE,cG,aj,c5,c9,cB,cZ]
    have eL:b1=true:=cm hA cf;refine rz hA 8 ?_;refine rt (gt ?_);refine congrArg PV.bool ?_
    try simp only[aS hA,a5,a3] at *
    subst b0 a1 a6 a8 a7 a2 a9;subst hA;simp[kE,cG,aj,c5,c9,cB,eL]
   exact cu cB (by subst hA;rfl)
  exact cu c9 (by subst hA;simp[aj])
 exact cu c6 (by subst hA;rfl)
theorem Jd (A:ax)(hA:A=aj)(s:cY)(nv:Int)(u:ByteArray)(zu:(aaL u:Int)<=4611686018427387904)(hz:∀ q∈fJ s,q<=1048576):al 206 [.agg (jn s),.ii nv,.agg [.ii 1,.str u,.str (aaP #[105,110,98,111,120]),.str aaM,.ii 0,.zc,.ii 0,.str aaM]] (.aw [.ow 8 (aaN gY [cF nv u]),.bool (!hasB s.fF u cG)]):=by
 obtain⟨a0⟩:=s;obtain⟨a4,a2,a9⟩:=nr hA iG a0;refine ak (az:=[.agg [.sl 5 a4],.ii nv,.agg [.ii 1,.str u,.str (aaP #[105,110,98,111,120]),.str aaM,.ii 0,.zc,.ii 0,.str aaM]]) (by subst a2;rfl) ?_;have a7:∀ q∈gW a0,q<=1048576:=λq hq=>hz q (by simp only[fJ,aaV];simp only[hq,true_or,or_true]);have c6:aaK a0<=1048576:=a7 _ (by simp[gW]);refine aY Tryz.func206 ?_;refine gx hA 4 ?_;refine gs (gr (rn hA 5 ?_));obtain⟨d1,d4,d2,d3,d0,e2,b0,b3,b2,b1,a6,c0,aJ⟩:=ON ((gL a0 u (aaP #[105,110,98,111,120])).Valid) ((gL a0 u (aaP #[105,110,98,111,120])).cv) ((gL a0 u (aaP #[105,110,98,111,120])).Name) ((gL a0 u (aaP #[105,110,98,111,120])).Next) (aaN fz ((gL a0 u (aaP #[105,110,98,111,120])).fQ)) (hasB a0 u (aaP #[105,110,98,111,120])) (uB A hA (⟨a0⟩:cY) u (aaP #[105,110,98,111,120]) (by assumption));have c9:=ab hA a6;refine aH aJ (.inr rfl) ?_ (hv:=by subst a2;rfl);refine rz hA 6 ?_;refine gs (gx hA 3 ?_);refine gc (λc3=>?_) (λc3=>?_)
 ·
  refine gx hA 11 ?_;refine rt (gt ?_);subst c0 a6 b1 b2 b3 b0;subst hA;rfl
 exact cu c3 (by subst hA;rfl)
theorem Gw (A:ax)(hA:A=aj)(s:cY)(nv:Int)(u:ByteArray)(zu:(aaL u:Int)<=4611686018427387904):al 98 [.agg (jn s),.ii nv,.agg [.ii 1,.str u,.str (aaP #[105,110,98,111,120]),.str aaM,.ii 0,.zc,.ii 0,.str aaM]] (.aw [.ow 8 (aaN gY [cF nv u]),.bool true]):=by
 obtain⟨a0⟩:=s;obtain⟨a4,a2,a9⟩:=nr hA iG a0;refine ak (az:=[.agg [.sl 5 a4],.ii nv,.agg [.ii 1,.str u,.str (aaP #[105,110,98,111,120]),.str aaM,.ii 0,.zc,.ii 0,.str aaM]]) (by subst a2;rfl) ?_;refine aY Tryz.func98 ?_;refine gx hA 4 ?_;refine gs (gx hA 3 ?_);refine gc (λc1=>?_) (λc1=>?_)
 ·
  refine gx hA 9 ?_;refine rt (gt ?_);rfl
 exact cu c1 (by subst hA;rfl)
theorem K5 (A:ax)(hA:A=aj)(x:List aT)(n nv:Int)(u:ByteArray)(hn:n=(aaK x:Int))(hb:aaK x<=1048576):jh Tryz.prog 248 [.ow 5 (aaN eA x),.ii n,.sl 5 [[.ii nv,.str u,.str (aaP #[105,110,98,111,120]),.ii 1,.zc]]] (.ow 5 (aaN eA (x++[dW nv u]))):=by
 obtain⟨gC,b9,e6⟩:=nr hA eA x;refine N3 (eR:=[.ow 5 gC,.ii n,.sl 5 [[.ii nv,.str u,.str (aaP #[105,110,98,111,120]),.ii 1,.zc]]]) (by subst b9;rfl) ?_;have l1:A.ao [[.ii nv,.str u,.str (aaP #[105,110,98,111,120]),.ii 1,.zc]]=(1:Int):=by subst hA;rfl
 refine YX nQ Tryz.func248 (by kernel_rfl) (R4 rfl (by cbv) (λhv=>?_));refine gx hA 1 ?_;refine gs (gr (rn hA 2 ?_));refine bO rfl rfl (UB rfl rfl rfl rfl rfl rfl (by omega) (by rw[b9,aaS];omega) rfl) ?_;refine od ?_;refine gx hA 3 ?_;refine gs (gx hA 2 ?_);refine gc (λc1=>?_) (λc1=>?_)
 ·
  have aV:(A.ao ([[.ii nv,.str u,.str (aaP #[105,110,98,111,120]),.ii 1,.zc]]))=0:=eE hA c1;exact absurd aV (by omega)
 have aV:(A.ao ([[.ii nv,.str u,.str (aaP #[105,110,98,111,120]),.ii 1,.zc]]))≠0:=eF hA c1;refine gk (gx hA 3 ?_);refine gs (gx hA 3 ?_);refine gc (λc2=>?_) (λc2=>?_)
 ·
  have iY:n=(A.ao gC):=eE hA c2;refine gs (gr (rn hA 2 ?_));obtain⟨r1,ep⟩:=nm (gC++[[.ii nv,.str u,.str (aaP #[105,110,98,111,120]),.ii 1,.zc]]:RR);obtain⟨r2,fT⟩:=nm (pc 3 r1:RR);have CT:r2=aaN eA (x++[dW nv u]):=by
   rw[fT,ep];exact Gd b9 Qv rfl
  refine Kc [.zY 1000000000 3] rfl rfl (ij rfl rfl rfl rfl rfl rfl rfl rfl ep (by cbv) (by cbv) (by cbv) rfl (by
   show(aaK gC+1) * _<=_;show(aaK gC+1) * 72<=_;rw[b9,aaS];omega) (by decide) (by decide)) (yl rfl fT.symm) ?_
  refine rz hA 1 ?_;refine rt (gt ?_);show _=(PV.ow 5 r2);rw[CT]
 have iY:n≠(A.ao gC):=eF hA c2;exact absurd iY (by simp only[Decidable.not_not];omega)
def Wb (p0:Int)(p1:RR)(p2 p3 p4:Int)(p5 p6 p7:ByteArray):St:={sl:=dV++.pt 3 0 0::.pt 4 0 0::.pt 5 0 0::.ii p0::Tt,bl:=[(5,⟨.var,1,[[.own 9]]⟩),(9,⟨.arr,5,p1⟩),(4,⟨.var,1,[[.zc]]⟩),(3,⟨.var,8,[[.ii p2,.ii p3,.ii p4,.ii p2,.ii p4,.str p5,.str p6,.str p7]]⟩)]}
theorem Mm (A:ax)(hA:A=aj)(s:cY)(nv:Int)(u:ByteArray)(hz:∀ q∈fJ s,q<=1048576)(hvs:∀ b∈s.fF,b.Valid < nv):al 208 [.agg (jn s),.agg [.ii 1,.ii nv,.ii 0,.ii 1,.ii 0,.str u,.str (aaP #[105,110,98,111,120]),.str aaM]] (.agg (nz ⟨s.fF++[dW nv u]⟩)):=by
 obtain⟨a0⟩:=s;obtain⟨a4,a2,a9⟩:=nr hA iG a0;refine ak (az:=[.agg [.sl 5 a4],.agg [.ii 1,.ii nv,.ii 0,.ii 1,.ii 0,.str u,.str (aaP #[105,110,98,111,120]),.str aaM]]) (by subst a2;rfl) ?_;have a7:∀ q∈gW a0,q<=1048576:=λq hq=>hz q (by simp only[fJ,aaV];simp only[hq,true_or,or_true]);have c6:aaK a0<=1048576:=a7 _ (by simp[gW]);have hvs:∀ b∈a0,b.Valid < nv:=hvs;refine aY Tryz.func208 ?_;refine gx hA 3 ?_;refine gs (gr (rn hA 1 ?_));obtain⟨a1,a3,aJ⟩:=tE (aaN eA a0) (sV A hA (⟨a0⟩:cY) (by assumption));have d7:=ab hA a3;refine aH aJ (.inr rfl) ?_ (hv:=by subst a2;rfl);refine rz hA 2 ?_;refine gs (gx hA 3 ?_);refine gc (λc3=>?_) (λc3=>?_)
 ·
  refine gx hA 1 ?_;refine gs (af ?_);refine aF (λσ m=>∃(i:Nat) (n:Int),σ=(Wb n a1 1 nv 0 u (aaP #[105,110,98,111,120]) aaM)/\(n=(i:Int)/\i<=aaK a0)/\m=aaK a0 - i) _ [] [3,4,5,6] [5,9,4,3] _ rfl (by cbv) ⟨0,0,rfl,?_,rfl⟩ (λσ m hI=>?_)
  ·
   exact⟨rfl,aaW _⟩
  obtain⟨i,n,rfl,⟨hn,hi⟩,rfl⟩:=hI;refine gs (gs ?_);refine cz [0,1,2,3,4,5,6,7,8,9,10,11,12,13,14,15] (by cbv) ?_;refine bL hA 6 ?_;refine bV 18 rfl (λc4=>?_) (λc4=>?_)
  ·
   have du:n < (A.ao a1):=aP hA c4;refine bL hA 3 ?_;obtain⟨e1,e5,x5,CU,d5⟩:=ga a0 n (by omega) (by omega);obtain⟨a5,b7,b6,b5,a8⟩:=x5;obtain⟨b8,b4,d6⟩:=nr hA fz a8;have e0:a1[(aaO n)]? =some [.ii a5,.str b7,.str b6,.ii b5,.ow 3 b8]:=by
    subst b4;exact bC eA a3 CU
   have c5:=CU;rw[hn] at c5;have c5:(a0)[i]? =some (⟨a5,b7,b6,b5,a8⟩:aT):=c5;have e4:aaK a8<=1048576:=a7 _ (aaX _ (abf.2 ⟨_,d5,by simp[B3,rG]⟩));have e3:a5 < nv:=hvs _ d5;have d8:n < (aaK a1:Int):=by
    rw[a3,aaS];omega
   refine lD rfl rfl rfl rfl rfl (kO rfl rfl rfl rfl rfl rfl e1 d8 rfl) ?_;refine bL hA 1 ?_;refine lD rfl rfl rfl rfl rfl (jM rfl rfl rfl rfl e0 rfl) ?_;refine dz hA 4 ?_;refine gc (λc7=>?_) (λc7=>?_)
   ·
    have jx:a5 < nv:=aP hA c7;refine gk (af (gy hA 3 ?_));refine⟨_,_,?_,by cbv,i+1,(A.num .add .i64 n 1),rfl,?_,rfl⟩
    ·
     omega
    exact⟨by rw[au hA (by omega) (by omega)];omega,by omega⟩
   have jx:nv<=a5:=aQ hA c7;exact absurd jx (by omega)
  have du:(A.ao a1)<=n:=aQ hA c4;refine dz hA 10 ?_;refine gc (λc8=>?_) (λc8=>?_)
  ·
   exact ay c8 (by rfl)
  refine aI (gE ?_);refine gs (gr (rn hA 12 ?_));refine Kc [.Px 43] rfl rfl (by cbv) (by cbv) ?_;obtain⟨z9,hz9,d9⟩:∃ r:RR,r=aaN eA (a0++[dW nv u])/\jh Tryz.prog 248 [.ow 5 a1,.ii n,.sl 5 ([[.ii nv,.str u,.str (aaP #[105,110,98,111,120]),.ii 1,.zc]])] (.ow 5 r):=⟨_,rfl,by rw[a3];exact K5 A hA a0 n nv u (by omega) (by omega)⟩;have lz9:=ab hA hz9;refine Am rfl (by cbv) rfl (by cbv) (by cbv) d9 (by cbv) ?_;refine rz hA 2 ?_;refine gx hA 2 ?_;refine rt (gt ?_);show _=(PV.agg [.ow 5 z9]);simp only[hz9];rfl
 exact cu c3 (by subst hA;rfl)
def Wc (p0:Int)(p1:RR)(p2 p3:Int)(p4:RR):St:={sl:=.aa::.ii p0::ql++.pt 7 0 0::.aa::.sl 8 p1::.aa::.pt 11 0 0::yb++.sl 8 p1::.ii p2::.ii p3::vg,bl:=[(7,⟨.var,1,[[.zc]]⟩),(11,⟨.var,1,[[.own 29]]⟩),(29,⟨.arr,5,p4⟩)]}
theorem Gx (A:ax)(hA:A=aj)(s:cY)(nv:Int)(u:ByteArray)(zu:(aaL u:Int)<=4611686018427387904)(hz:∀ q∈fJ s,q<=1048576)(hvs:∀ b∈s.fF,b.Valid < nv):al 125 [.agg (jn s),.ii nv,.agg [.ii 1,.str u,.str (aaP #[105,110,98,111,120]),.str aaM,.ii 0,.zc,.ii 0,.str aaM]] (.aw [.sl 8 (aaN gY (oq s.fF nv u)),.agg (nz ⟨Gy s.fF nv u⟩),.bool (dN s.fF nv u)]):=by
 obtain⟨a0⟩:=s;obtain⟨a2,a1,b5⟩:=nr hA iG a0;refine ak (az:=[.agg [.sl 5 a2],.ii nv,.agg [.ii 1,.str u,.str (aaP #[105,110,98,111,120]),.str aaM,.ii 0,.zc,.ii 0,.str aaM]]) (by subst a1;rfl) ?_;have a9:∀ q∈gW a0,q<=1048576:=λq hq=>hz q (by simp only[fJ,aaV];simp only[hq,true_or,or_true]);have c0:aaK a0<=1048576:=a9 _ (by simp[gW]);have hvs:∀ b∈a0,b.Valid < nv:=hvs;refine aY Tryz.func125 ?_;refine gx hA 5 ?_;refine gs (gs (gr (rn hA 1 ?_)));obtain⟨c2,b6,aJ⟩:=ib (I9 A hA u (by assumption));refine aH aJ (.inr rfl) ?_;refine rz hA 1 ?_;refine gc (λc3=>?_) (λc3=>?_)
 ·
  have c4:c2=false:=ck hA c3;refine gs (gB (rn hA 4 ?_));refine bY (tw:=[.cell 7 0 9001 5,.slot 6 9100 8,.freeze 9100]) (by cbv) ?_;refine rt (gt ?_);show _=PV.aw [.sl 8 ([]),.agg [.ow 5 ([])],.bool false];have E:dN a0 nv u=false:=TT (by rw[<- b6];assumption);simp only[Gy,oq,E,acd,if_false];rfl
 have c5:c2=true:=cm hA c3;refine gk (gs (gr (rn hA 3 ?_)));obtain⟨c7,a8,b3,c1,fq⟩:=Y4 (aaN EP ([cF nv u])) (!hasB a0 u cG) (Jd A hA (⟨a0⟩:cY) nv u (by assumption) (by assumption));have d8:=ab hA b3;obtain⟨jX,b1⟩:=nm (ar c7:RR);have a4:jX=aaN gY ([cF nv u]):=by rw[b1,b3];exact MV _
 have e0:=ab hA a4;refine lL (r':=.aw [.sl 8 jX,.bool a8]) rfl rfl (by cbv) (by subst a1;rfl) fq (.inr rfl) (by subst b1;rfl) ?_;refine rz hA 5 ?_;refine gs (gx hA 2 ?_);refine gc (λc9=>?_) (λc9=>?_)
 ·
  have cB:a8=false:=ck hA c9;refine gs (gB (rn hA 4 ?_));refine bY (tw:=[.cell 7 0 9001 5,.slot 6 9100 8,.freeze 9100]) (by cbv) ?_;refine rt (gt ?_);show _=PV.aw [.sl 8 ([]),.agg [.ow 5 ([])],.bool false];have E:dN a0 nv u=false:=OO (UL (by have h:=c1;rw[show a8=false from by assumption] at h;simpa using h.symm));simp only[Gy,oq,E,acd,if_false];rfl
 have cf:a8=true:=cm hA c9;refine gk (gs (gr (rn hA 1 ?_)));obtain⟨a7,b0,b9⟩:=tE (aaN eA a0) (sV A hA (⟨a0⟩:cY) (by assumption));have d1:=ab hA b0;refine aH b9 (.inr rfl) ?_ (hv:=by subst a1;rfl);refine rz hA 2 ?_;refine gs (gx hA 3 ?_);refine af ?_;refine aF (λσ m=>∃(L:List aT) (R:RR) (n:Int),σ=(Wc nv jX (A.ao jX) n R)/\(R=aaN eA L/\((n=0/\L=a0)\/(n=1/\L=a0++[dW nv u]/\kE a0 nv u=true)))/\m=aaO (1 - n)) _ [.up 29,.up 11,.up 7,.up 5,.up 3] [1,7,9,11,30,31,32] [7,11,29] _ rfl (by cbv) ⟨a0,a7,0,rfl,?_,rfl⟩ (λσ m hI=>?_)
 ·
  exact⟨by assumption,.inl ⟨rfl,rfl⟩⟩
 obtain⟨L,R,n,rfl,⟨hR,hinv⟩,rfl⟩:=hI;refine gs ?_;have le:A.ao jX=(1:Int):=by
  have hq:jX=aaN gY ([cF nv u]):=a4;rw[hq];subst hA;rfl
 refine gy hA 1 ?_;refine gs ?_;refine gc (λdF=>?_) (λdF=>?_)
 ·
  have e1:n < (A.ao jX):=aP hA dF;refine gk (gs (af (gs ?_)));have CL:n=0:=by omega
  have Io:L=a0:=by
   rcases hinv with h | h
   ·exact h.2
   omega
  have hzL:∀ q∈fJ (⟨L⟩:cY),q<=1048576:=by rw[Io];exact hz
  have hvL:∀ b∈(⟨L⟩:cY).fF,b.Valid < nv:=by rw[Io];exact hvs
  refine gr ?_;have d3:jX=aaN gY ([cF nv u]):=a4;have d5:jX[aaO n]? =some [.ii 1,.ii nv,.ii 0,.ii 1,.ii 0,.str u,.str (aaP #[105,110,98,111,120]),.str aaM]:=by rw[d3,CL];rfl
  refine ee (by omega) d5 ?_;refine rz hA 3 ?_;refine gs (gs (gr (rn hA 3 ?_)));obtain⟨a6,b4,e2⟩:∃(a6:Bool),a6=(kE L nv u)/\al 132 [.agg [.sl 5 (ar R)],.ii nv,.agg [.ii 1,.ii nv,.ii 0,.ii 1,.ii 0,.str u,.str (aaP #[105,110,98,111,120]),.str aaM]] (.bool a6):=⟨_,rfl,by subst hR;simp only[je];exact xt A hA (⟨L⟩:cY) nv u (by assumption) (by assumption)⟩;refine aH e2 (.inl trivial) ?_;refine rz hA 1 ?_;refine gc (λiu=>?_) (λiu=>?_)
  ·
   have lY:a6=false:=ck hA iu;refine gs (gB (rn hA 4 ?_));refine bY (tw:=[.cell 7 0 9001 5,.slot 6 9100 8,.freeze 9100]) (by cbv) ?_;refine rt (gt ?_);show _=PV.aw [.sl 8 ([]),.agg [.ow 5 ([])],.bool false];have E:dN a0 nv u=false:=OO (by rw[<- Io,<- b4];assumption);simp only[Gy,oq,E,acd,if_false];rfl
  have jw:a6=true:=cm hA iu;refine gk (gr (rn hA 2 ?_));obtain⟨a5,a3,d9⟩:=AW [.agg [.sl 5 (ar R)],.agg [.ii 1,.ii nv,.ii 0,.ii 1,.ii 0,.str u,.str (aaP #[105,110,98,111,120]),.str aaM]] (aaN eA (L++[dW nv u])) (by subst hR;simp only[je];exact Mm A hA (⟨L⟩:cY) nv u (by assumption) (by assumption));have d2:=ab hA a3;refine aH d9 (.inl (by simp only[fresh,cj,a3,B4,and_self])) ?_;refine rz hA 1 ?_;refine gB (rn hA 2 ?_);refine bY (tw:=[.drop 29,.lr 44 29,.up 29,.up 13,.up 11,.up 7]) (by cbv) ?_;refine⟨_,_,?_,by cbv,(L++[dW nv u]),a5,(A.num .add .i64 n 1),rfl,?_,rfl⟩
  ·
   have:=au hA (a:=n) (b:=1) (by omega) (by omega);omega
  refine⟨a3,.inr ⟨by rw[au hA (by omega) (by omega)];omega,by rw[Io],?_⟩⟩;rw[<- Io,<- b4];assumption
 have e1:(A.ao jX)<=n:=aQ hA dF;refine aI (gE ?_);refine gs ?_;refine cR [0,2,1,3,4] (by cbv) ?_;refine cH hA 5 ?_;refine cS (by cbv) ?_;refine rt (gt ?_);show _=PV.aw [.sl 8 jX,.agg [.ow 5 R],.bool true];have hf:n=1/\L=a0++[dW nv u]/\kE a0 nv u=true:=by
  rcases hinv with h | h
  ·omega
  exact h
 have E:dN a0 nv u=true:=TU (by rw[<- b6];assumption) hf.2.2;simp only[Gy,oq,E,if_true,hR,hf.2.1,a4,hR];rfl
def Y5 (p0:Int)(p1:RR)(p2:Bool)(p3:Int)(p4:RR):St:={sl:=.aa::.ii p0::.aa::.pt 3 0 0::iB++.sl 8 p1::.bool p2::.ii p3::JB,bl:=[(3,⟨.var,1,[[.sl 5 p4]]⟩)]}
theorem Gz (A:ax)(hA:A=aj)(s:cY)(nv:Int)(u:ByteArray)(zu:(aaL u:Int)<=4611686018427387904)(hz:∀ q∈fJ s,q<=1048576):al 55 [.agg (jn s),.ii nv,.agg [.ii 1,.str u,.str (aaP #[105,110,98,111,120]),.str aaM,.ii 0,.zc,.ii 0,.str aaM]] (.aw [.sl 8 (aaN gY (oq s.fF nv u)),.bool (dN s.fF nv u)]):=by
 obtain⟨a0⟩:=s;obtain⟨a2,a1,b5⟩:=nr hA iG a0;refine ak (az:=[.agg [.sl 5 a2],.ii nv,.agg [.ii 1,.str u,.str (aaP #[105,110,98,111,120]),.str aaM,.ii 0,.zc,.ii 0,.str aaM]]) (by subst a1;rfl) ?_;have a9:∀ q∈gW a0,q<=1048576:=λq hq=>hz q (by simp only[fJ,aaV];simp only[hq,true_or,or_true]);have c0:aaK a0<=1048576:=a9 _ (by simp[gW]);refine aY Tryz.func55 ?_;refine gx hA 4 ?_;refine gs (gs (gr (rn hA 1 ?_)));obtain⟨c6,b7,aJ⟩:=ib (Jb A hA u (by assumption));refine aH aJ (.inr rfl) ?_;refine rz hA 1 ?_;refine gc (λc3=>?_) (λc3=>?_)
 ·
  have c4:c6=false:=ck hA c3;refine gs (gB (rn hA 3 ?_));refine bY (tw:=[.freeze 14]) (by cbv) ?_;refine rt (gt ?_);show _=PV.aw [.sl 8 ([]),.bool false];have E:dN a0 nv u=false:=TT (by rw[<- b7];assumption);simp only[oq,E,acd,if_false];rfl
 have c5:c6=true:=cm hA c3;refine gk (gs (gr (rn hA 3 ?_)));obtain⟨c8,b2,fq⟩:=Y6 (aaN EP ([cF nv u])) true (Gw A hA (⟨a0⟩:cY) nv u (by assumption));have d7:=ab hA b2;obtain⟨jX,b1⟩:=nm (ar c8:RR);have a4:jX=aaN gY ([cF nv u]):=by rw[b1,b2];exact MV _
 have e0:=ab hA a4;refine lL (r':=.aw [.sl 8 jX,.bool true]) rfl rfl (by cbv) (by subst a1;rfl) fq (.inr rfl) (by subst b1;rfl) ?_;refine rz hA 5 ?_;refine gs (gx hA 1 ?_);refine af ?_;refine aF (λσ m=>∃(n:Int) (ok:Bool),σ=(Y5 nv jX ok n a2)/\((n=0/\ok=true)\/(n=1/\ok=kE a0 nv u))/\m=aaO (1 - n)) _ [] [1,3,8,9,10] [3] _ rfl (by cbv) ⟨0,true,rfl,?_,rfl⟩ (λσ m hI=>?_)
 ·
  exact .inl ⟨rfl,rfl⟩
 obtain⟨n,ok,rfl,hinv,rfl⟩:=hI;refine gs (gs ?_);have le:A.ao jX=(1:Int):=by
  have hq:jX=aaN gY ([cF nv u]):=a4;rw[hq];subst hA;rfl
 refine gr (rn hA 5 ?_);refine ag 26 rfl (λc9=>?_) (λc9=>?_)
 ·
  have po:n < (A.ao jX):=aP hA c9;refine rz hA 2 ?_;refine gc (λcB=>?_) (λcB=>?_)
  ·
   refine gk (gs (af ?_));have CL:n=0:=by omega
   refine cz [0,1,2,3,4,5,6,7] (by cbv) ?_;refine bL hA 4 ?_;have d4:jX=aaN gY ([cF nv u]):=a4;have d6:jX[aaO n]? =some [.ii 1,.ii nv,.ii 0,.ii 1,.ii 0,.str u,.str (aaP #[105,110,98,111,120]),.str aaM]:=by rw[d4,CL];rfl
   refine ob (by omega) d6 ?_;refine bL hA 1 ?_;obtain⟨b8,d0,b9⟩:=kV (kE a0 nv u) (xu A hA (⟨a0⟩:cY) nv u (by assumption) (by assumption));refine eQ b9 (.inr rfl) ?_ (hv:=by subst a1;rfl);refine dz hA 1 ?_;refine gy hA 3 ?_;refine⟨_,_,?_,by cbv,(A.num .add .i64 n 1),b8,rfl,?_,rfl⟩
   ·
    have:=au hA (a:=n) (b:=1) (by omega) (by omega);omega
   exact .inr ⟨by rw[au hA (by omega) (by omega)];omega,d0⟩
  exact absurd (hinv.elim (λh=>h.2) (λh=>absurd h.1 (by omega))) (by rw[cB];decide)
 have po:(A.ao jX)<=n:=aQ hA c9;refine rz hA 2 ?_;refine gc (λdF=>?_) (λdF=>?_)
 ·
  exact ay dF (by rfl)
 refine aI (gE ?_);refine gs (gx hA 2 ?_);refine gc (λeL=>?_) (λeL=>?_)
 ·
  have iA:ok=false:=ck hA eL;refine gs (gB (rn hA 3 ?_));refine bY (tw:=[.freeze 40]) (by cbv) ?_;refine rt (gt ?_);show _=PV.aw [.sl 8 ([]),.bool false];have hf:ok=kE a0 nv u:=by
   rcases hinv with h | h
   ·omega
   exact h.2
  have E:dN a0 nv u=false:=OO (by rw[<- hf];assumption);simp only[oq,E,acd,if_false];rfl
 have gG:ok=true:=cm hA eL;refine gk (gx hA 3 ?_);refine rt (gt ?_);show _=PV.aw [.sl 8 jX,.bool true];have hf:ok=kE a0 nv u:=by
  rcases hinv with h | h
  ·omega
  exact h.2
 have E:dN a0 nv u=true:=TU (by rw[<- b7];assumption) (by rw[<- hf];assumption);simp only[oq,E,if_true,a4]
theorem CV (A:ax)(hA:A=aj)(x:List Int)(hb:aaK x<=1048576):al 68 [.sl 1 (aaN bq x)] (.ow 1 (aaN bq x)):=by
 obtain⟨gC,c5,j6⟩:=nr hA bq x;refine ak (az:=[.sl 1 gC]) (by subst c5;rfl) ?_;refine aY Tryz.func68 ?_;refine gx hA 1 ?_;refine gs (gs (gr (rn hA 1 ?_)));refine si rfl rfl rfl rfl (by cbv) (λb1 gg=>?_);refine od ?_;refine gc (λc2=>?_) (λc2=>?_)
 ·
  refine gs (gB (rn hA 1 ?_));refine bY (tw:=[.slot 2 2 1]) (by cbv) ?_;refine rt (gt ?_);refine congrArg (PV.ow 1) ?_;exact Eq.trans (show aaN bq x=aaN bq x from rfl) (c5.symm.trans (gg c2))
 refine gk (gs (gr (rn hA 2 ?_)));obtain⟨r3,dS⟩:=nm (([])++gC:RR);have jv:r3=aaN bq (([])++x):=by rw[dS];exact cM rfl c5
 have AR:=ab hA jv;refine ju dS ?_ (hl:=by
  show(aaK ([])+aaK gC) * _<=_;show(aaK ([]:RR)+aaK gC) * 8<=_;rw[c5];simp only[abn,aaS];omega)
 refine rz hA 1 ?_;refine rt (gt ?_);refine congrArg (PV.ow 1) ?_;exact(jv.trans rfl).symm
theorem GA (A:ax)(hA:A=aj)(x:List ByteArray)(hb:aaK x<=1048576):al 187 [.sl 1 (aaN ah x)] (.ow 1 (aaN ah x)):=by
 obtain⟨gC,c5,j6⟩:=nr hA ah x;refine ak (az:=[.sl 1 gC]) (by subst c5;rfl) ?_;refine aY Tryz.func187 ?_;refine gx hA 1 ?_;refine gs (gs (gr (rn hA 1 ?_)));refine si rfl rfl rfl rfl (by cbv) (λb1 gg=>?_);refine od ?_;refine gc (λc2=>?_) (λc2=>?_)
 ·
  refine gs (gB (rn hA 1 ?_));refine bY (tw:=[.slot 2 2 1]) (by cbv) ?_;refine rt (gt ?_);refine congrArg (PV.ow 1) ?_;exact Eq.trans (show aaN ah x=aaN ah x from rfl) (c5.symm.trans (gg c2))
 refine gk (gs (gr (rn hA 2 ?_)));obtain⟨r3,dS⟩:=nm (([])++gC:RR);have jv:r3=aaN ah (([])++x):=by rw[dS];exact cM rfl c5
 have AR:=ab hA jv;refine ju dS ?_ (hl:=by
  show(aaK ([])+aaK gC) * _<=_;show(aaK ([]:RR)+aaK gC) * 16<=_;rw[c5];simp only[abn,aaS];omega)
 refine rz hA 1 ?_;refine rt (gt ?_);refine congrArg (PV.ow 1) ?_;exact(jv.trans rfl).symm
theorem K6 (A:ax)(hA:A=aj)(x:List ae)(hb:aaK x<=1048576):al 124 [.sl 9 (aaN aW x)] (.ow 9 (aaN da x)):=by
 obtain⟨gC,c5,j6⟩:=nr hA aW x;refine ak (az:=[.sl 9 gC]) (by subst c5;rfl) ?_;refine aY Tryz.func124 ?_;refine gx hA 1 ?_;refine gs (gs (gr (rn hA 1 ?_)));refine si rfl rfl rfl rfl (by cbv) (λb1 gg=>?_);refine od ?_;refine gc (λc2=>?_) (λc2=>?_)
 ·
  refine gs (gB (rn hA 1 ?_));refine bY (tw:=[.slot 2 2 9]) (by cbv) ?_;refine rt (gt ?_);refine congrArg (PV.ow 9) ?_;exact Eq.trans (show aaN da x=aaN aW x from rfl) (c5.symm.trans (gg c2))
 refine gk (gs (gr (rn hA 2 ?_)));obtain⟨r3,dS⟩:=nm (([])++gC:RR);have jv:r3=aaN da (([])++x):=by rw[dS];exact cM rfl c5
 have AR:=ab hA jv;refine ju dS ?_ (hl:=by
  show(aaK ([])+aaK gC) * _<=_;show(aaK ([]:RR)+aaK gC) * 96<=_;rw[c5];simp only[abn,aaS];omega)
 refine rz hA 1 ?_;refine rt (gt ?_);refine congrArg (PV.ow 9) ?_;exact(jv.trans rfl).symm
theorem Je (A:ax)(hA:A=aj)(x:List br)(hb:aaK x<=1048576):al 188 [.sl 2 (aaN bn x)] (.ow 2 (aaN aU x)):=by
 obtain⟨gC,c5,j6⟩:=nr hA bn x;refine ak (az:=[.sl 2 gC]) (by subst c5;rfl) ?_;refine aY Tryz.func188 ?_;refine gx hA 1 ?_;refine gs (gs (gr (rn hA 1 ?_)));refine si rfl rfl rfl rfl (by cbv) (λb1 gg=>?_);refine od ?_;refine gc (λc2=>?_) (λc2=>?_)
 ·
  refine gs (gB (rn hA 1 ?_));refine bY (tw:=[.slot 2 2 2]) (by cbv) ?_;refine rt (gt ?_);refine congrArg (PV.ow 2) ?_;exact Eq.trans (show aaN aU x=aaN bn x from rfl) (c5.symm.trans (gg c2))
 refine gk (gs (gr (rn hA 2 ?_)));obtain⟨r3,dS⟩:=nm (([])++gC:RR);have jv:r3=aaN aU (([])++x):=by rw[dS];exact cM rfl c5
 have AR:=ab hA jv;refine ju dS ?_ (hl:=by
  show(aaK ([])+aaK gC) * _<=_;show(aaK ([]:RR)+aaK gC) * 24<=_;rw[c5];simp only[abn,aaS];omega)
 refine rz hA 1 ?_;refine rt (gt ?_);refine congrArg (PV.ow 2) ?_;exact(jv.trans rfl).symm
theorem oL (A:ax)(hA:A=aj)(x:bj)(hz:∀ k∈db x,k<=1048576):al 89 [.agg (gf x)] (.agg (jo x)):=by
 obtain⟨d6,f5⟩:=x;obtain⟨e6,d7,j1⟩:=nr hA ah d6;obtain⟨f8,f1,j7⟩:=nr hA bn f5;refine ak (az:=[.agg [.sl 1 e6,.sl 2 f8]]) (by subst d7 f1;rfl) ?_;have n0:aaK d6<=1048576:=hz _ (by simp[db,bR,dX]);have n1:aaK f5<=1048576:=hz _ (by simp[db,bR,dX]);refine aY Tryz.func89 ?_;refine gx hA 2 ?_;refine gs ?_;refine cR [0,1,2,3,4,5,6,7,8,9] (by cbv) ?_;refine cH hA 3 ?_;obtain⟨r1,ep⟩:=nm (([])++e6:RR);have AT:r1=aaN ah (([])++d6):=by rw[ep];exact cM rfl d7
 have V7:=ab hA AT;refine iF rfl rfl rfl rfl rfl rfl rfl (ij rfl rfl rfl rfl rfl rfl rfl rfl ep (by cbv) (by cbv) (by cbv) rfl (by
  show(aaK ([])+aaK e6) * _<=_;simp only[abn,aaS,abj, *];omega) (by decide) (by decide)) ?_
 refine cH hA 3 ?_;obtain⟨r2,fT⟩:=nm (([])++f8:RR);have CT:r2=aaN aU (([])++f5):=by rw[fT];exact cM rfl f1
 have lr2:=ab hA CT;refine iF rfl rfl rfl rfl rfl rfl rfl (ij rfl rfl rfl rfl rfl rfl rfl rfl fT (by cbv) (by cbv) (by cbv) rfl (by
  show(aaK ([])+aaK f8) * _<=_;simp only[abn,aaS,abj, *];omega) (by decide) (by decide)) ?_
 refine cH hA 2 ?_;refine cS (by cbv) ?_;refine rt (gt ?_);show _=(PV.agg [.ow 1 r1,.ow 2 r2]);simp only[AT,CT,abv];rfl
theorem kW (A:ax)(hA:A=aj)(x:bj)(hz:∀ k∈db x,k<=1048576):al 115 [.agg (gf x)] (.agg (jo x)):=by
 obtain⟨d6,f5⟩:=x;obtain⟨e6,d7,j1⟩:=nr hA ah d6;obtain⟨f8,f1,j7⟩:=nr hA bn f5;refine ak (az:=[.agg [.sl 1 e6,.sl 2 f8]]) (by subst d7 f1;rfl) ?_;have n0:aaK d6<=1048576:=hz _ (by simp[db,bR,dX]);have n1:aaK f5<=1048576:=hz _ (by simp[db,bR,dX]);refine aY Tryz.func115 ?_;refine gx hA 2 ?_;refine gs ?_;refine cR [0,1,2,3,4,5,6,7] (by cbv) ?_;refine cH hA 2 ?_;obtain⟨l1,k7,aJ⟩:=xq (GA A hA d6 (by omega));have l3:=ab hA k7;refine nc aJ (.inr rfl) ?_ (hv:=by subst d7;rfl);refine cH hA 2 ?_;obtain⟨k3,i5,cL⟩:=xq (Je A hA f5 (by omega));have k9:=ab hA i5;refine nc cL (.inr rfl) ?_ (hv:=by subst f1;rfl);refine cH hA 2 ?_;refine cS (by cbv) ?_;refine rt (gt ?_);show _=(PV.agg [.ow 1 l1,.ow 2 k3]);simp only[k7,i5,abv];rfl
def Y7 (p0:RR)(p1 p2:Int)(p3 p4 p5:RR)(p6 p7 p8 p9 fj fc:Int):St:={sl:=.aa::.aa::.pt 2 0 0::.pt 3 0 0::F4++.sl 4 p0::.ii p1::.ii p2::vg,bl:=[(7003,⟨.arr,4,p3⟩),(9,⟨.arr,1,p4⟩),(1009,⟨.arr,2,p5⟩),(3,⟨.var,8,[[.own 9,.own 1009,.ii p6,.own 7003,.ii p7,.ii p8,.ii p9,.ii fj]]⟩),(2,⟨.var,8,[[.zc,.zc,.ii fc,.zc,.ii fc,.ii fc,.ii fc,.ii fc]]⟩)]}
theorem nM (A:ax)(hA:A=aj)(x:bF)(hz:∀ q∈fg x,q<=1048576):al 67 [.agg (mT x)] (.agg (rV x)):=by
 obtain⟨⟨a2,a4⟩,d9,a8,c0,b9,d0,b0⟩:=x;obtain⟨b7,c1,i1⟩:=nr hA ah a2;obtain⟨c6,c9,i7⟩:=nr hA bn a4;obtain⟨a7,f6,k0⟩:=nr hA cA a8;refine ak (az:=[.agg [.sl 1 b7,.sl 2 c6,.ii d9,.sl 4 a7,.ii c0,.ii b9,.ii d0,.ii b0]]) (by subst c1 c9 f6;rfl) ?_;have g2:∀ q∈db (⟨a2,a4⟩:bj),q<=1048576:=λq hq=>hz q (by simp only[fg,aaV];simp only[hq,true_or,or_true]);have e8:∀ q∈bR a2,q<=1048576:=λq hq=>g2 q (by simp only[db,aaV];simp only[hq,true_or,or_true]);have i6:aaK a2<=1048576:=e8 _ (by simp[bR]);have f9:∀ q∈dX a4,q<=1048576:=λq hq=>g2 q (by simp only[db,aaV];simp only[hq,true_or,or_true]);have i9:aaK a4<=1048576:=f9 _ (by simp[dX]);have g3:∀ q∈gl a8,q<=1048576:=λq hq=>hz q (by simp only[fg,aaV];simp only[hq,true_or,or_true]);have k8:aaK a8<=1048576:=g3 _ (by simp[gl]);refine aY Tryz.func67 ?_;refine gx hA 2 ?_;refine gx hA 3 ?_;refine gs (gr (rn hA 2 ?_));obtain⟨b5,c4,d3,e5,aJ⟩:=yI (aaN ah a2) (aaN aU a4) (kW A hA (⟨a2,a4⟩:bj) (by assumption));have j0:=ab hA d3;have j2:=ab hA e5;refine aH aJ (.inr rfl) ?_ (hv:=by subst c1 c9;rfl);refine rz hA 2 ?_;refine gx hA 2 ?_;refine gs (gx hA 4 ?_);refine af ?_;refine aF (λσ m=>∃(i:Nat) (R:RR) (n:Int),σ=(Y7 a7 (A.ao a7) n R b5 c4 d9 c0 b9 d0 b0 0)/\(n=(i:Int)/\i<=aaK a8/\R=aaN bW (a8.take i))/\m=aaK a8 - i) _ [.cell 3 3 7003 4] [2,3,13,14,15] [7003,9,1009,3,2] _ rfl (by cbv) ⟨0,[],0,rfl,?_,rfl⟩ (λσ m hI=>?_)
 ·
  exact⟨rfl,aaW _,rfl⟩
 obtain⟨i,R,n,rfl,⟨hn,hi,hR⟩,rfl⟩:=hI;refine gx hA 1 ?_;refine gs ?_;refine gc (λc3=>?_) (λc3=>?_)
 ·
  have cI:n < (A.ao a7):=aP hA c3;refine gk (gs (af (gs (gr ?_))));obtain⟨k5,l0,x4,AX,k1⟩:=ga a8 n (by omega) (by omega);obtain⟨f0,e0,d5,c8⟩:=x4;obtain⟨f2,e7,j3⟩:=nr hA aW c8;have k4:a7[(aaO n)]? =some [.ii f0,.ii e0,.ii d5,.sl 9 f2]:=by
   subst e7;exact bC cA f6 AX
  have g5:=AX;rw[hn] at g5;have g5:(a8)[i]? =some (⟨f0,e0,d5,c8⟩:bu):=g5;have nI:aaK c8<=1048576:=g3 _ (aaX _ (abf.2 ⟨_,k1,by simp[yJ,il]⟩));refine ee k5 k4 ?_;refine rz hA 3 ?_;refine gs (gr (rn hA 2 ?_));obtain⟨k6,j9,kU⟩:=xq (K6 A hA c8 (by omega));have l2:=ab hA j9;refine aH kU (.inr rfl) ?_ (hv:=by subst e7;rfl);refine rz hA 2 ?_;refine gr (rn hA 4 ?_);obtain⟨r7,kt⟩:=nm (R++[[.ii f0,.ii e0,.ii d5,.ow 9 k6]]:RR);have vH:r7=aaN bW ((a8.take i)++([(⟨f0,e0,d5,c8⟩:bu)])):=by rw[kt];exact cM hR (by simp only[j9];rfl)
  have TV:=ab hA vH;refine ju kt ?_ (hl:=by
   show(aaK R+aaK ([[.ii f0,.ii e0,.ii d5,.ow 9 k6]])) * _<=_;show(aaK R+1) * 48<=_;rw[hR,aaS,aa1];omega)
  refine rz hA 2 ?_;refine gy hA 2 ?_;refine⟨_,_,?_,by cbv,i+1,r7,(A.num .add .i64 n 1),rfl,?_,rfl⟩
  ·
   omega
  refine⟨by rw[au hA (by omega) (by omega)];omega,by omega,?_⟩;rw[aa6,g5];exact vH
 have cI:(A.ao a7)<=n:=aQ hA c3;refine aI (gE ?_);refine gx hA 2 ?_;refine rt (gt ?_);show _=(PV.agg [.ow 1 b5,.ow 2 c4,.ii d9,.ow 4 R,.ii c0,.ii b9,.ii d0,.ii b0]);simp only[d3,e5,hR,aaU (show aaK a8<=i by omega),abv];rfl
def Y8 (p0:Int)(p1 p2 p3:RR)(p4 p5 p6 p7 p8 p9:Int)(fj fc ku:RR):St:={sl:=.aa::.pt 1 0 0::.pt 2 0 0::.pt 3 0 0::.ii p0::JC,bl:=[(11,⟨.arr,4,p1⟩),(9,⟨.arr,1,p2⟩),(1009,⟨.arr,2,p3⟩),(3,⟨.var,8,[[.own 9,.own 1009,.ii p4,.own 11,.ii p5,.ii p6,.ii p7,.ii p8]]⟩),(2,⟨.var,8,[[.zc,.zc,.ii p9,.zc,.ii p9,.ii p9,.ii p9,.ii p9]]⟩),(1,⟨.var,8,[[.sl 1 fj,.sl 2 fc,.ii p4,.sl 4 ku,.ii p5,.ii p6,.ii p7,.ii p8]]⟩)]}
theorem xv (A:ax)(hA:A=aj)(x:bF)(hz:∀ q∈fg x,q<=1048576):al 54 [.agg (mT x)] (.agg (rV x)):=by
 obtain⟨⟨a2,a4⟩,d9,a8,c0,b9,d0,b0⟩:=x;obtain⟨b7,c1,i1⟩:=nr hA ah a2;obtain⟨c6,c9,i7⟩:=nr hA bn a4;obtain⟨a7,f6,k0⟩:=nr hA cA a8;refine ak (az:=[.agg [.sl 1 b7,.sl 2 c6,.ii d9,.sl 4 a7,.ii c0,.ii b9,.ii d0,.ii b0]]) (by subst c1 c9 f6;rfl) ?_;have g2:∀ q∈db (⟨a2,a4⟩:bj),q<=1048576:=λq hq=>hz q (by simp only[fg,aaV];simp only[hq,true_or,or_true]);have e8:∀ q∈bR a2,q<=1048576:=λq hq=>g2 q (by simp only[db,aaV];simp only[hq,true_or,or_true]);have i6:aaK a2<=1048576:=e8 _ (by simp[bR]);have f9:∀ q∈dX a4,q<=1048576:=λq hq=>g2 q (by simp only[db,aaV];simp only[hq,true_or,or_true]);have i9:aaK a4<=1048576:=f9 _ (by simp[dX]);have g3:∀ q∈gl a8,q<=1048576:=λq hq=>hz q (by simp only[fg,aaV];simp only[hq,true_or,or_true]);have k8:aaK a8<=1048576:=g3 _ (by simp[gl]);refine aY Tryz.func54 ?_;refine gx hA 2 ?_;refine gx hA 3 ?_;refine gs (gr (rn hA 2 ?_));obtain⟨b5,c4,d3,e5,aJ⟩:=yI (aaN ah a2) (aaN aU a4) (oL A hA (⟨a2,a4⟩:bj) (by assumption));have j0:=ab hA d3;have j2:=ab hA e5;refine aH aJ (.inr rfl) ?_ (hv:=by subst c1 c9;rfl);refine rz hA 2 ?_;refine gx hA 3 ?_;refine gs (gx hA 1 ?_);refine af ?_;refine aF (λσ m=>∃(i:Nat) (R:RR) (n:Int),σ=(Y8 n R b5 c4 d9 c0 b9 d0 b0 0 b7 c6 a7)/\(n=(i:Int)/\i<=aaK a8/\R=aaN bW (a8.take i))/\m=aaK a8 - i) _ [] [1,2,3,4] [11,9,1009,3,2,1] _ rfl (by cbv) ⟨0,[],0,rfl,?_,rfl⟩ (λσ m hI=>?_)
 ·
  exact⟨rfl,aaW _,rfl⟩
 obtain⟨i,R,n,rfl,⟨hn,hi,hR⟩,rfl⟩:=hI;refine gs (gx hA 5 ?_);refine gc (λc3=>?_) (λc3=>?_)
 ·
  have cI:n < (A.ao a7):=aP hA c3;refine gk (gs (af (gs (gr (rn hA 3 ?_)))));obtain⟨k5,l0,x4,AX,k1⟩:=ga a8 n (by omega) (by omega);obtain⟨f0,e0,d5,c8⟩:=x4;obtain⟨f2,e7,j3⟩:=nr hA aW c8;have k4:a7[(aaO n)]? =some [.ii f0,.ii e0,.ii d5,.sl 9 f2]:=by
   subst e7;exact bC cA f6 AX
  have g5:=AX;rw[hn] at g5;have g5:(a8)[i]? =some (⟨f0,e0,d5,c8⟩:bu):=g5;have nI:aaK c8<=1048576:=g3 _ (aaX _ (abf.2 ⟨_,k1,by simp[yJ,il]⟩));refine ee k5 k4 ?_;refine rz hA 3 ?_;refine gs (gr (rn hA 3 ?_));obtain⟨r5,kr⟩:=nm (([])++f2:RR);have vG:r5=aaN da (([])++c8):=by rw[kr];exact cM rfl e7
  have TS:=ab hA vG;refine ju kr ?_ (hl:=by
   show(aaK ([])+aaK f2) * _<=_;simp only[abn,aaS,abj, *];omega)
  refine rz hA 2 ?_;refine gr (rn hA 4 ?_);obtain⟨r6,kv⟩:=nm (R++[[.ii f0,.ii e0,.ii d5,.ow 9 r5]]:RR);have uD:r6=aaN bW ((a8.take i)++([(⟨f0,e0,d5,[]++c8⟩:bu)])):=by rw[kv];exact cM hR (by simp only[vG];rfl)
  have TW:=ab hA uD;refine ju kv ?_ (hl:=by
   show(aaK R+aaK ([[.ii f0,.ii e0,.ii d5,.ow 9 r5]])) * _<=_;show(aaK R+1) * 48<=_;rw[hR,aaS,aa1];omega)
  refine rz hA 2 ?_;refine gy hA 3 ?_;refine⟨_,_,?_,by cbv,i+1,r6,(A.num .add .i64 n 1),rfl,?_,rfl⟩
  ·
   omega
  refine⟨by rw[au hA (by omega) (by omega)];omega,by omega,?_⟩;rw[aa6,g5];exact uD
 have cI:(A.ao a7)<=n:=aQ hA c3;refine aI (gE ?_);refine gx hA 2 ?_;refine rt (gt ?_);show _=(PV.agg [.ow 1 b5,.ow 2 c4,.ii d9,.ow 4 R,.ii c0,.ii b9,.ii d0,.ii b0]);simp only[d3,e5,hR,aaU (show aaK a8<=i by omega),abv];rfl
theorem mr (A:ax)(hA:A=aj)(x:aK)(hz:∀ q∈fK x,q<=1048576):al 27 [.agg (iv x)] (.agg (kP x)):=by
 obtain⟨⟨⟨a0,a1⟩,b4,a9,a6,a5,b2,a3⟩,e1⟩:=x;obtain⟨d1,b3,g4⟩:=nr hA ah a0;obtain⟨d8,b6,g6⟩:=nr hA bn a1;obtain⟨g0,d2,i8⟩:=nr hA cA a9;obtain⟨f7,f3,j8⟩:=nr hA bq e1;refine ak (az:=[.agg [.sl 1 d1,.sl 2 d8,.ii b4,.sl 4 g0,.ii a6,.ii a5,.ii b2,.ii a3,.sl 1 f7]]) (by subst b3 b6 d2 f3;rfl) ?_;have g8:∀ q∈fg (⟨⟨a0,a1⟩,b4,a9,a6,a5,b2,a3⟩:bF),q<=1048576:=λq hq=>hz q (by simp only[fK,aaV];simp only[hq,true_or,or_true]);have e4:∀ q∈db (⟨a0,a1⟩:bj),q<=1048576:=λq hq=>g8 q (by simp only[fg,aaV];simp only[hq,true_or,or_true]);have d4:∀ q∈bR a0,q<=1048576:=λq hq=>e4 q (by simp only[db,aaV];simp only[hq,true_or,or_true]);have g7:aaK a0<=1048576:=d4 _ (by simp[bR]);have e3:∀ q∈dX a1,q<=1048576:=λq hq=>e4 q (by simp only[db,aaV];simp only[hq,true_or,or_true]);have i2:aaK a1<=1048576:=e3 _ (by simp[dX]);have g1:∀ q∈gl a9,q<=1048576:=λq hq=>g8 q (by simp only[fg,aaV];simp only[hq,true_or,or_true]);have j4:aaK a9<=1048576:=g1 _ (by simp[gl]);have i3:∀ q∈jS e1,q<=1048576:=λq hq=>hz q (by simp only[fK,aaV];simp only[hq,true_or,or_true]);have k2:aaK e1<=1048576:=i3 _ (by simp[jS]);refine aY Tryz.func27 ?_;refine gx hA 2 ?_;refine gs ?_;refine cR [0,1,2,3,4,5,6,7,8] (by cbv) ?_;refine cH hA 2 ?_;obtain⟨e2,e9,i0,b8,c7,f4,aJ⟩:=K7 (aaN ah a0) (aaN aU a1) (aaN bW a9) b4 a6 a5 b2 a3 (xv A hA (⟨⟨a0,a1⟩,b4,a9,a6,a5,b2,a3⟩:bF) (by assumption));have g9:=ab hA b8;have i4:=ab hA c7;have j5:=ab hA f4;refine nc aJ (.inr rfl) ?_ (hv:=by subst b3 b6 d2;rfl);refine cH hA 3 ?_;obtain⟨r3,dS⟩:=nm (([])++f7:RR);have jv:r3=aaN bq (([])++e1):=by rw[dS];exact cM rfl f3
 have AR:=ab hA jv;refine iF rfl rfl rfl rfl rfl rfl rfl (ij rfl rfl rfl rfl rfl rfl rfl rfl dS (by cbv) (by cbv) (by cbv) rfl (by
  show(aaK ([])+aaK f7) * _<=_;simp only[abn,aaS,abj, *];omega) (by decide) (by decide)) ?_
 refine cH hA 2 ?_;refine cS (by cbv) ?_;refine rt (gt ?_);show _=(PV.agg [.ow 1 e2,.ow 2 e9,.ii b4,.ow 4 i0,.ii a6,.ii a5,.ii b2,.ii a3,.ow 1 r3]);simp only[b8,c7,f4,jv,abv];rfl
theorem ma (A:ax)(hA:A=aj)(x:aK)(hz:∀ q∈fK x,q<=1048576):al 32 [.agg (iv x)] (.agg (kP x)):=by
 obtain⟨⟨⟨a0,a1⟩,b4,a9,a6,a5,b2,a3⟩,e1⟩:=x;obtain⟨d1,b3,g4⟩:=nr hA ah a0;obtain⟨d8,b6,g6⟩:=nr hA bn a1;obtain⟨g0,d2,i8⟩:=nr hA cA a9;obtain⟨f7,f3,j8⟩:=nr hA bq e1;refine ak (az:=[.agg [.sl 1 d1,.sl 2 d8,.ii b4,.sl 4 g0,.ii a6,.ii a5,.ii b2,.ii a3,.sl 1 f7]]) (by subst b3 b6 d2 f3;rfl) ?_;have g8:∀ q∈fg (⟨⟨a0,a1⟩,b4,a9,a6,a5,b2,a3⟩:bF),q<=1048576:=λq hq=>hz q (by simp only[fK,aaV];simp only[hq,true_or,or_true]);have e4:∀ q∈db (⟨a0,a1⟩:bj),q<=1048576:=λq hq=>g8 q (by simp only[fg,aaV];simp only[hq,true_or,or_true]);have d4:∀ q∈bR a0,q<=1048576:=λq hq=>e4 q (by simp only[db,aaV];simp only[hq,true_or,or_true]);have g7:aaK a0<=1048576:=d4 _ (by simp[bR]);have e3:∀ q∈dX a1,q<=1048576:=λq hq=>e4 q (by simp only[db,aaV];simp only[hq,true_or,or_true]);have i2:aaK a1<=1048576:=e3 _ (by simp[dX]);have g1:∀ q∈gl a9,q<=1048576:=λq hq=>g8 q (by simp only[fg,aaV];simp only[hq,true_or,or_true]);have j4:aaK a9<=1048576:=g1 _ (by simp[gl]);have i3:∀ q∈jS e1,q<=1048576:=λq hq=>hz q (by simp only[fK,aaV];simp only[hq,true_or,or_true]);have k2:aaK e1<=1048576:=i3 _ (by simp[jS]);refine aY Tryz.func32 ?_;refine gx hA 2 ?_;refine gs ?_;refine cR [0,1,2,3,4,5,6,7] (by cbv) ?_;refine cH hA 2 ?_;obtain⟨e2,e9,i0,b8,c7,f4,aJ⟩:=K7 (aaN ah a0) (aaN aU a1) (aaN bW a9) b4 a6 a5 b2 a3 (nM A hA (⟨⟨a0,a1⟩,b4,a9,a6,a5,b2,a3⟩:bF) (by assumption));have g9:=ab hA b8;have i4:=ab hA c7;have j5:=ab hA f4;refine nc aJ (.inr rfl) ?_ (hv:=by subst b3 b6 d2;rfl);refine cH hA 2 ?_;obtain⟨k3,i5,cL⟩:=xq (CV A hA e1 (by omega));have k9:=ab hA i5;refine nc cL (.inr rfl) ?_ (hv:=by subst f3;rfl);refine cH hA 2 ?_;refine cS (by cbv) ?_;refine rt (gt ?_);show _=(PV.agg [.ow 1 e2,.ow 2 e9,.ii b4,.ow 4 i0,.ii a6,.ii a5,.ii b2,.ii a3,.ow 1 k3]);simp only[b8,c7,f4,i5,abv];rfl
end Go.Av

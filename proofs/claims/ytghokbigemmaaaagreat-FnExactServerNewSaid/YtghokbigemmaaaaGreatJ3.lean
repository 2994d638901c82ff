/- Lemmas and walks for FnExactServerNew: what each function of the program and of the reference comes to. -/
import Derived.Test.YtghokbigemmaaaaGreatJ1
open List renaming length→aaK,map→aaN,take_of_length_le→aaU,mem_append→aaV,mem_cons_of_mem→aaX,length_take→aa1,mem_cons_self→aa2,take→aa8,mem_flatMap→abf,drop→abi,drop_of_length_le→abk,any→acw
open ByteArray renaming size→aaL,empty→aaM,mk→aaP,toList→acy
open Int renaming toNat→aaO,toNat_natCast→abb,not_lt→abd
open Bool renaming and_eq_true→aaR,and_assoc→aa4,beq_eq_decide_eq→abc
open Nat renaming zero_le→aaW
open Option renaming isSome→abB,getD→ab9
namespace Go.Av
open Go Go.Proofs
set_option maxRecDepth 100000
set_option maxHeartbeats 4000000
set_option linter.unusedVariables false
set_option linter.unusedSimpArgs false
theorem ig (A:ax)(hA:A=aj)(n lo hi:Int):al 59 [.ii n,.ii lo,.ii hi] (.bool (dm n lo hi)):=by
 refine aY Tryz.func59 ?_;refine gx hA 1 ?_;refine gs (gr (rn hA 4 ?_));refine ag 10 rfl (λc1=>?_) (λc1=>?_)
 ·
  have aV:lo<=n:=qy hA c1;refine rz hA 5 ?_;refine rt (gt ?_);show _=(PV.bool (A.cmp .leq n hi));refine congrArg PV.bool ?_
  try simp only[aS hA] at *
  subst hA;simp[dm,aj,aV]
 have aV:n < lo:=qz hA c1;refine rz hA 5 ?_;refine rt (gt ?_);refine congrArg PV.bool ?_
 try simp only[aS hA] at *
 subst hA;simp[dm,aj,aV,Int.not_le.2 aV]
theorem et (A:ax)(hA:A=aj)(n lo hi:Int):al 46 [.ii n,.ii lo,.ii hi] (.bool (dm n lo hi)):=by
 refine aY Tryz.func46 ?_;refine gx hA 1 ?_;refine gs (gr (rn hA 4 ?_));refine ag 10 rfl (λc1=>?_) (λc1=>?_)
 ·
  have aV:lo<=n:=qy hA c1;refine rz hA 5 ?_;refine rt (gt ?_);show _=(PV.bool (A.cmp .leq n hi));refine congrArg PV.bool ?_
  try simp only[aS hA] at *
  subst hA;simp[dm,aj,aV]
 have aV:n < lo:=qz hA c1;refine rz hA 5 ?_;refine rt (gt ?_);refine congrArg PV.bool ?_
 try simp only[aS hA] at *
 subst hA;simp[dm,aj,aV,Int.not_le.2 aV]
def Wk (p0:ByteArray)(p1 p2:Int):St:={sl:=.str p0::RJ++.ii p1::.ii p2::xZ,bl:=[]}
theorem pB (A:ax)(hA:A=aj)(s:ByteArray)(hz:(aaL s:Int)<=4611686018427387904):al 243 [.str s] (.bool (dw s)):=by
 have zs:=aS hA s;refine aY Tryz.func243 ?_;refine gx hA 1 ?_;refine gs (gs (gr (rn hA 2 ?_)));obtain⟨j8,e9,aJ⟩:=ib (ig A hA (A.bA s) 1 8);refine aH aJ (.inr rfl) ?_;refine rz hA 1 ?_;refine gc (λc3=>?_) (λc3=>?_)
 ·
  have c4:j8=false:=ck hA c3;refine gx hA 1 ?_;refine rt (gt ?_);refine congrArg PV.bool ?_
  try simp only[aS hA] at *
  rw[dw];subst e9;subst hA;simp[aj,c4]
 have c5:j8=true:=cm hA c3;refine gk (gs (gx hA 3 ?_));refine af ?_;refine aF (λσ m=>∃(i:Nat) (n:Int),σ=(Wk s (A.bA s) n)/\(n=(i:Int)/\i<=aaL s/\Wd s=uE s i (aaL s - i))/\m=aaL s - i) _ [] [0,9,10] [] _ rfl (by cbv) ⟨0,0,rfl,?_,rfl⟩ (λσ m hI=>?_)
 ·
  exact⟨rfl,aaW _,rfl⟩
 obtain⟨i,n,rfl,⟨hn,hi,hE⟩,rfl⟩:=hI;have zs:=aS hA s;refine gx hA 1 ?_;refine gs ?_;refine gc (λc6=>?_) (λc6=>?_)
 ·
  have cp:n < (A.bA s):=aP hA c6;refine gk (gs (af (gx hA 2 ?_)));refine gs (gr (rn hA 2 ?_));have zy7:A.bA s=(aaL s:Int):=aS hA s;have l8:(0:Int)<=n:=by omega
  have k4:n < (aaL s:Int):=by omega
  obtain⟨y7,M1⟩:=nm (bc s n:Int);refine bO rfl rfl (ml rfl rfl rfl rfl l8 k4 M1) ?_;refine rn hA 2 ?_;refine ag 17 rfl (λc8=>?_) (λc8=>?_)
  ·
   have gz:y7 < 97:=aP hA c8;refine rz hA 5 ?_;refine gc (λc9=>?_) (λc9=>?_)
   ·
    refine gx hA 1 ?_;refine rt (gt ?_);refine congrArg PV.bool ?_
    try simp only[aS hA] at *
    rw[dw,hE,tU (by omega)];subst hn;subst M1 e9;subst hA;simp[aj,c5,cp,gz]
   exact cu c9 (by rfl)
  have gz:97<=y7:=aQ hA c8;refine rn hA 2 ?_;have n7:A.bA s=(aaL s:Int):=aS hA s;have j9:(0:Int)<=n:=by omega
  have k0:n < (aaL s:Int):=by omega
  obtain⟨y10,i8⟩:=nm (bc s n:Int);refine qf rfl rfl rfl rfl (ml rfl rfl rfl rfl j9 k0 i8) ?_;refine rz hA 2 ?_;refine gc (λcf=>?_) (λcf=>?_)
  ·
   have g4:122 < y10:=dJ hA cf;refine gx hA 1 ?_;refine rt (gt ?_);refine congrArg PV.bool ?_
   try simp only[aS hA] at *
   rw[dw,hE,tU (by omega)];subst hn;subst i8 M1 e9;subst hA;simp[aj,c5,cp,gz,abd.2 gz,g4]
  have g4:y10<=122:=dL hA cf;refine gk (gy hA 2 ?_);refine⟨_,_,?_,by cbv,i+1,(A.num .add .i64 n 1),rfl,?_,rfl⟩
  ·
   omega
  refine⟨by rw[au hA (by omega) (by omega)];omega,by omega,?_⟩;rw[hE,tU (by omega)];subst i8 M1;subst hn;simp[c5,cp,gz,abd.2 gz,g4,abd.2 g4]
 have cp:(A.bA s)<=n:=aQ hA c6;refine aI (gE ?_);refine gx hA 1 ?_;refine rt (gt ?_);refine congrArg PV.bool ?_
 try simp only[aS hA] at *
 rw[dw,hE,Qw (by omega)];subst e9;subst hA;simp[aj,c5,cp,abd.2 cp]
def Wl (p0:ByteArray)(p1:Int):St:={sl:=.str p0::.aa::.aa::.ii p1::yc,bl:=[]}
theorem nd (A:ax)(hA:A=aj)(s:ByteArray)(hz:(aaL s:Int)<=4611686018427387904):al 152 [.str s] (.bool (dw s)):=by
 have zs:=aS hA s;refine aY Tryz.func152 ?_;refine gx hA 1 ?_;refine gs (gx hA 1 ?_);refine af ?_;refine aF (λσ m=>∃(i:Nat) (n:Int),σ=(Wl s n)/\(n=(i:Int)/\i<=aaL s/\Wd s=uE s i (aaL s - i))/\m=aaL s - i) _ [] [0,3] [] _ rfl (by cbv) ⟨0,0,rfl,?_,rfl⟩ (λσ m hI=>?_)
 ·
  exact⟨rfl,aaW _,rfl⟩
 obtain⟨i,n,rfl,⟨hn,hi,hE⟩,rfl⟩:=hI;have zs:=aS hA s;refine gs (gx hA 4 ?_);refine gc (λc1=>?_) (λc1=>?_)
 ·
  have aV:n < (A.bA s):=aP hA c1;refine gk (gs (af (gs (gr (rn hA 2 ?_)))));have T2:A.bA s=(aaL s:Int):=aS hA s;have k9:(0:Int)<=n:=by omega
  have k3:n < (aaL s:Int):=by omega
  obtain⟨y2,ta⟩:=nm (bc s n:Int);refine bO rfl rfl (ml rfl rfl rfl rfl k9 k3 ta) ?_;refine rn hA 2 ?_;refine ag 14 rfl (λc3=>?_) (λc3=>?_)
  ·
   have cI:y2 < 97:=aP hA c3;refine rz hA 5 ?_;refine gc (λc4=>?_) (λc4=>?_)
   ·
    refine gx hA 1 ?_;refine rt (gt ?_);refine congrArg PV.bool ?_
    try simp only[aS hA] at *
    rw[dw,hE,tU (by omega)];subst hn;subst ta;subst hA;simp[aj,aV,cI]
   exact cu c4 (by rfl)
  have cI:97<=y2:=aQ hA c3;refine rn hA 2 ?_;have zy5:A.bA s=(aaL s:Int):=aS hA s;have m0:(0:Int)<=n:=by omega
  have l9:n < (aaL s:Int):=by omega
  obtain⟨y5,Wm⟩:=nm (bc s n:Int);refine qf rfl rfl rfl rfl (ml rfl rfl rfl rfl m0 l9 Wm) ?_;refine rz hA 2 ?_;refine gc (λc6=>?_) (λc6=>?_)
  ·
   have cp:122 < y5:=dJ hA c6;refine gx hA 1 ?_;refine rt (gt ?_);refine congrArg PV.bool ?_
   try simp only[aS hA] at *
   rw[dw,hE,tU (by omega)];subst hn;subst Wm ta;subst hA;simp[aj,aV,cI,abd.2 cI,cp]
  have cp:y5<=122:=dL hA c6;refine gk (gy hA 3 ?_);refine⟨_,_,?_,by cbv,i+1,(A.num .add .i64 n 1),rfl,?_,rfl⟩
  ·
   omega
  refine⟨by rw[au hA (by omega) (by omega)];omega,by omega,?_⟩;rw[hE,tU (by omega)];subst Wm ta;subst hn;simp[aV,cI,abd.2 cI,cp,abd.2 cp]
 have aV:(A.bA s)<=n:=aQ hA c1;refine aI (gE ?_);refine gs (gr (rn hA 2 ?_));obtain⟨n0,j4,jQ⟩:=ib (et A hA (A.bA s) 1 8);refine aH jQ (.inr rfl) ?_;refine rz hA 1 ?_;refine rt (gt ?_);refine congrArg PV.bool ?_
 try simp only[aS hA] at *
 rw[dw,hE,Qw (by omega)];subst j4;subst hA;simp[aj,aV,abd.2 aV]
theorem yL :aaM=aaP #[]:=rfl
theorem oP (x:ByteArray):(x.toList=[])=(x=aaP #[]):=by
 refine propext ⟨λh=>?_,λh=>by subst h;simp[acy,acy.loop,aaL]⟩;have h2:=VR h;cases x with
 | mk d=>
  have h3:d=#[]:=Array.eq_empty_of_size_eq_zero h2;rw[h3]
theorem qK (A:ax)(hA:A=aj)(r:aE)(hz:∀ q∈eH r,(q:Int)<=4611686018427387904):al 191 [.agg (gY r)] (.bool (bH r)):=by
 obtain⟨a0,c0,b3,b1,a5,a9,a8,a6⟩:=r;refine ak (az:=[.agg [.ii a0,.ii c0,.ii b3,.ii b1,.ii a5,.str a9,.str a8,.str a6]]) (by rfl) ?_;have OS:(aaL a9:Int)<=4611686018427387904:=hz _ (by simp[eH]);have OT:(aaL a8:Int)<=4611686018427387904:=hz _ (by simp[eH]);have OU:(aaL a6:Int)<=4611686018427387904:=hz _ (by simp[eH]);have lT:=aS hA a6;refine aY Tryz.func191 ?_;refine gx hA 2 ?_;refine gs (gs (gr (rn hA 2 ?_)));obtain⟨j0,b2,aJ⟩:=ib (ig A hA c0 1 9999);refine aH aJ (.inr rfl) ?_;refine rz hA 1 ?_;refine gc (λc3=>?_) (λc3=>?_)
 ·
  have c4:j0=false:=ck hA c3;refine gx hA 1 ?_;refine rt (gt ?_);refine congrArg PV.bool ?_
  try simp only[lT] at *
  subst b2;subst hA;simp[bH,aj,bP,aa4,c4]
 have c5:j0=true:=cm hA c3;refine gk (gx hA 3 ?_);refine gx hA 4 ?_;refine gx hA 1 ?_;refine gs (gs (gr (rn hA 4 ?_)));refine ag 15 rfl (λc6=>?_) (λc6=>?_)
 ·
  have cp:a0=3:=eE hA c6;refine rz hA 9 ?_;refine gc (λc7=>?_) (λc7=>?_)
  ·
   refine gs (gr (rn hA 2 ?_));obtain⟨n6,d8,kA⟩:=ib (ig A hA b3 1 9999);refine aH kA (.inr rfl) ?_;refine rz hA 1 ?_;refine gy hA 2 ?_;refine gs (gs (gr (rn hA 4 ?_)));refine ag 32 rfl (λcB=>?_) (λcB=>?_)
   ·
    refine rz hA 4 ?_;refine gc (λcf=>?_) (λcf=>?_)
    ·
     refine gs (gr (rn hA 2 ?_));refine ag 38 rfl (λcZ=>?_) (λcZ=>?_)
     ·
      refine rn hA 2 ?_;obtain⟨m3,e3,l0⟩:=ib (ig A hA a5 0 7);refine fC l0 (.inr rfl) ?_;refine rz hA 2 ?_;refine gy hA 2 ?_;refine gs (gx hA 2 ?_);refine af (gx hA 2 ?_);refine gc (λeL=>?_) (λeL=>?_)
      ·
       exact ay eL (by rw[cp];subst hA;rfl)
      refine gx hA 2 ?_;refine gc (λiA=>?_) (λiA=>?_)
      ·
       refine gs (gr (rn hA 2 ?_));refine ag 67 rfl (λgG=>?_) (λgG=>?_)
       ·
        refine rz hA 6 ?_;refine gy hA 2 ?_;refine gs (gr (rn hA 2 ?_));refine ag 79 rfl (λiu=>?_) (λiu=>?_)
        ·
         have b6:(A.bA a6)<=100:=JK hA iu;refine rz hA 5 ?_;refine rt (gt ?_);show _=(PV.bool (A.sd [.ii 0,.ii 0,.ii 0,.ii b1,.ii 0,.str a9,.str a8,.str (aaP #[])] [.ii 0,.ii 0,.ii 0,.ii 0,.ii 0,.str aaM,.str aaM,.str aaM]));refine congrArg PV.bool ?_
         try simp only[lT] at *
         subst e3 d8 b2;subst hA;simp[bH,aj,dH,kQ,yL,abc,bP,oP,aa4,c5,cp,cB,cZ,gG,b6]
        have b6:100 < (A.bA a6):=JL hA iu;refine rz hA 5 ?_;refine rt (gt ?_);refine congrArg PV.bool ?_
        try simp only[lT] at *
        subst e3 d8 b2;subst hA;simp[bH,aj,bP,aa4,c5,cp,cB,cZ,gG,b6,Int.not_le.2 b6]
       refine rz hA 6 ?_;refine gy hA 2 ?_;refine gx hA 7 ?_;refine rt (gt ?_);refine congrArg PV.bool ?_
       try simp only[lT] at *
       subst e3 d8 b2;subst hA;simp[bH,aj,bP,aa4,c5,cp,cB,cZ,gG]
      exact cu iA (by exact c6)
     refine rz hA 5 ?_;refine gy hA 2 ?_;refine gs (gx hA 2 ?_);refine af (gx hA 2 ?_);refine gc (λlY=>?_) (λlY=>?_)
     ·
      exact ay lY (by rw[cp];subst hA;rfl)
     refine gx hA 2 ?_;refine gc (λjw=>?_) (λjw=>?_)
     ·
      refine gx hA 8 ?_;refine gy hA 2 ?_;refine gx hA 7 ?_;refine rt (gt ?_);refine congrArg PV.bool ?_
      try simp only[lT] at *
      subst d8 b2;subst hA;simp[bH,aj,bP,aa4,c5,cp,cB,cZ]
     exact cu jw (by exact c6)
    exact cu cf (by rfl)
   exact cu cB (by exact c6)
  exact cu c7 (by rfl)
 have cp:a0≠3:=eF hA c6;refine rn hA 5 ?_;refine ag 20 rfl (λqM=>?_) (λqM=>?_)
 ·
  have b0:a0=4:=eE hA qM;refine rz hA 4 ?_;refine gc (λsm=>?_) (λsm=>?_)
  ·
   refine gs (gr (rn hA 2 ?_));obtain⟨m6,e6,l6⟩:=ib (ig A hA b3 1 9999);refine aH l6 (.inr rfl) ?_;refine rz hA 1 ?_;refine gy hA 2 ?_;refine gs (gs (gr (rn hA 4 ?_)));refine ag 32 rfl (λoV=>?_) (λoV=>?_)
   ·
    exact ay oV (by exact c6)
   refine rz hA 4 ?_;refine gc (λsW=>?_) (λsW=>?_)
   ·
    refine gs (gr (rn hA 2 ?_));refine ag 38 rfl (λpn=>?_) (λpn=>?_)
    ·
     refine rn hA 2 ?_;obtain⟨m4,f8,m2⟩:=ib (ig A hA a5 0 7);refine fC m2 (.inr rfl) ?_;refine rz hA 2 ?_;refine gy hA 2 ?_;refine gs (gx hA 2 ?_);refine af (gx hA 2 ?_);refine gc (λsX=>?_) (λsX=>?_)
     ·
      exact ay sX (by rw[b0];subst hA;rfl)
     refine gx hA 2 ?_;refine gc (λoo=>?_) (λoo=>?_)
     ·
      exact ay oo (by exact c6)
     refine gs (gx hA 2 ?_);refine gc (λuJ=>?_) (λuJ=>?_)
     ·
      exact ay uJ (by rw[b0];subst hA;rfl)
     refine gx hA 2 ?_;refine gc (λzE=>?_) (λzE=>?_)
     ·
      refine gk ?_;refine gc (λzC=>?_) (λzC=>?_)
      ·
       refine gk (gs (gr (rn hA 2 ?_)));refine ag 79 rfl (λCY=>?_) (λCY=>?_)
       ·
        refine rz hA 5 ?_;refine rt (gt ?_);show _=(PV.bool (A.sd [.ii 0,.ii 0,.ii 0,.ii b1,.ii 0,.str a9,.str a8,.str a6] [.ii 0,.ii 0,.ii 0,.ii 0,.ii 0,.str aaM,.str aaM,.str aaM]));refine congrArg PV.bool ?_
        try simp only[lT] at *
        subst f8 e6 b2;subst hA;simp[bH,aj,dH,kQ,yL,abc,bP,oP,aa4,c5,cp,cp.symm,b0,oV,pn,CY]
       refine rz hA 5 ?_;refine rt (gt ?_);refine congrArg PV.bool ?_
       try simp only[lT] at *
       subst f8 e6 b2;subst hA;simp[bH,aj,bP,aa4,c5,cp,cp.symm,b0,oV,pn,CY]
      exact cu zC (by exact qM)
     exact cu zE (by exact qM)
    refine rz hA 5 ?_;refine gy hA 2 ?_;refine gs (gx hA 2 ?_);refine af (gx hA 2 ?_);refine gc (λqS=>?_) (λqS=>?_)
    ·
     exact ay qS (by rw[b0];subst hA;rfl)
    refine gx hA 2 ?_;refine gc (λuK=>?_) (λuK=>?_)
    ·
     exact ay uK (by exact c6)
    refine gs (gx hA 2 ?_);refine gc (λvL=>?_) (λvL=>?_)
    ·
     exact ay vL (by rw[b0];subst hA;rfl)
    refine gx hA 2 ?_;refine gc (λBe=>?_) (λBe=>?_)
    ·
     refine gk ?_;refine gc (λvM=>?_) (λvM=>?_)
     ·
      refine gk (gx hA 7 ?_);refine rt (gt ?_);refine congrArg PV.bool ?_
      try simp only[lT] at *
      subst e6 b2;subst hA;simp[bH,aj,bP,aa4,c5,cp,cp.symm,b0,oV,pn]
     exact cu vM (by exact qM)
    exact cu Be (by exact qM)
   exact cu sW (by exact qM)
  exact cu sm (by rfl)
 have b0:a0≠4:=eF hA qM;refine rz hA 4 ?_;refine gc (λrr=>?_) (λrr=>?_)
 ·
  have b4:a0=5:=eE hA rr;refine gs (gr (rn hA 2 ?_));obtain⟨m7,f5,k7⟩:=ib (ig A hA b3 1 9999);refine aH k7 (.inr rfl) ?_;refine rz hA 1 ?_;refine gy hA 2 ?_;refine gs (gs (gr (rn hA 4 ?_)));refine ag 32 rfl (λuL=>?_) (λuL=>?_)
  ·
   exact ay uL (by exact c6)
  refine rz hA 4 ?_;refine gc (λIz=>?_) (λIz=>?_)
  ·
   exact ay Iz (by exact qM)
  refine gk (gs (gx hA 2 ?_));refine af (gx hA 2 ?_);refine gc (λM3=>?_) (λM3=>?_)
  ·
   exact ay M3 (by rw[b4];subst hA;rfl)
  refine gx hA 2 ?_;refine gc (λc47=>?_) (λc47=>?_)
  ·
   exact ay c47 (by exact c6)
  refine gs (gx hA 2 ?_);refine gc (λM4=>?_) (λM4=>?_)
  ·
   exact ay M4 (by rw[b4];subst hA;rfl)
  refine gx hA 2 ?_;refine gc (λE8=>?_) (λE8=>?_)
  ·
   exact ay E8 (by exact qM)
  refine gy hA 2 ?_;refine gc (λT3=>?_) (λT3=>?_)
  ·
   refine gk (gs (gr (rn hA 2 ?_)));refine ag 79 rfl (λM5=>?_) (λM5=>?_)
   ·
    refine rz hA 5 ?_;refine rt (gt ?_);show _=(PV.bool (A.sd [.ii 0,.ii 0,.ii 0,.ii b1,.ii a5,.str a9,.str a8,.str a6] [.ii 0,.ii 0,.ii 0,.ii 0,.ii 0,.str aaM,.str aaM,.str aaM]));refine congrArg PV.bool ?_
    try simp only[lT] at *
    subst f5 b2;subst hA;simp[bH,aj,dH,kQ,yL,abc,bP,oP,aa4,c5,cp,cp.symm,b0,b0.symm,b4,uL,M5]
   refine rz hA 5 ?_;refine rt (gt ?_);refine congrArg PV.bool ?_
   try simp only[lT] at *
   subst f5 b2;subst hA;simp[bH,aj,bP,aa4,c5,cp,cp.symm,b0,b0.symm,b4,uL,M5]
  exact cu T3 (by exact rr)
 have b4:a0≠5:=eF hA rr;refine gk (gs (gs (gr (rn hA 4 ?_))));refine ag 32 rfl (λBf=>?_) (λBf=>?_)
 ·
  exact ay Bf (by exact c6)
 refine rz hA 4 ?_;refine gc (λLo=>?_) (λLo=>?_)
 ·
  exact ay Lo (by exact qM)
 refine gk (gs (gx hA 2 ?_));refine af (gx hA 2 ?_);refine gc (λM6=>?_) (λM6=>?_)
 ·
  have d0:a0=1:=eE hA M6;refine gs (gr (rn hA 2 ?_));obtain⟨m8,d4,m1⟩:=ib (pB A hA a9 (by first | assumption | omega));refine aH m1 (.inr rfl) ?_;refine rn hA 1 ?_;refine ag 51 rfl (λQG=>?_) (λQG=>?_)
  ·
   refine rn hA 2 ?_;obtain⟨m5,e1,l3⟩:=ib (pB A hA a8 (by first | assumption | omega));refine fC l3 (.inr rfl) ?_;refine rn hA 2 ?_;refine ag 56 rfl (λLp=>?_) (λLp=>?_)
   ·
    refine rn hA 2 ?_;obtain⟨m9,f3,k8⟩:=ib (ig A hA b1 1 10000);refine fC k8 (.inr rfl) ?_;refine rz hA 2 ?_;refine gy hA 6 ?_;refine gs (gr (rn hA 2 ?_));refine ag 79 rfl (λM7=>?_) (λM7=>?_)
    ·
     refine rz hA 5 ?_;refine rt (gt ?_);show _=(PV.bool (A.sd [.ii 0,.ii 0,.ii b3,.ii 0,.ii a5,.str (aaP #[]),.str (aaP #[]),.str a6] [.ii 0,.ii 0,.ii 0,.ii 0,.ii 0,.str aaM,.str aaM,.str aaM]));refine congrArg PV.bool ?_
     try simp only[lT] at *
     subst f3 e1 d4 b2;subst hA;simp[bH,aj,dH,kQ,yL,abc,bP,oP,aa4,c5,cp,cp.symm,b0,b0.symm,b4,b4.symm,Bf,d0,QG,Lp,M7]
    refine rz hA 5 ?_;refine rt (gt ?_);refine congrArg PV.bool ?_
    try simp only[lT] at *
    subst f3 e1 d4 b2;subst hA;simp[bH,aj,bP,aa4,c5,cp,cp.symm,b0,b0.symm,b4,b4.symm,Bf,d0,QG,Lp,M7]
   refine rz hA 5 ?_;refine gy hA 6 ?_;refine gx hA 7 ?_;refine rt (gt ?_);refine congrArg PV.bool ?_
   try simp only[lT] at *
   subst e1 d4 b2;subst hA;simp[bH,aj,bP,aa4,c5,cp,cp.symm,b0,b0.symm,b4,b4.symm,Bf,d0,QG,Lp]
  refine rz hA 10 ?_;refine gy hA 6 ?_;refine gx hA 7 ?_;refine rt (gt ?_);refine congrArg PV.bool ?_
  try simp only[lT] at *
  subst d4 b2;subst hA;simp[bH,aj,bP,aa4,c5,cp,cp.symm,b0,b0.symm,b4,b4.symm,Bf,d0,QG]
 have d0:a0≠1:=eF hA M6;refine gx hA 2 ?_;refine gc (λQH=>?_) (λQH=>?_)
 ·
  exact ay QH (by exact c6)
 refine gs (gx hA 2 ?_);refine gc (λoY=>?_) (λoY=>?_)
 ·
  have f9:a0=2:=eE hA oY;refine gk ?_;refine gc (λIA=>?_) (λIA=>?_)
  ·
   refine gk (gx hA 7 ?_);refine rt (gt ?_);show _=(PV.bool (A.sd [.ii 0,.ii 0,.ii b3,.ii b1,.ii a5,.str a9,.str a8,.str a6] [.ii 0,.ii 0,.ii 0,.ii 0,.ii 0,.str aaM,.str aaM,.str aaM]));refine congrArg PV.bool ?_
   try simp only[lT] at *
   subst b2;subst hA;simp[bH,aj,dH,kQ,yL,abc,bP,oP,aa4,c5,cp,cp.symm,b0,b0.symm,b4,b4.symm,Bf,d0,d0.symm,f9]
  exact cu IA (by exact oY)
 have f9:a0≠2:=eF hA oY;refine gx hA 2 ?_;refine gc (λc67=>?_) (λc67=>?_)
 ·
  exact ay c67 (by exact qM)
 refine gy hA 2 ?_;refine gc (λc68=>?_) (λc68=>?_)
 ·
  exact ay c68 (by exact rr)
 refine gx hA 1 ?_;refine rt (gt ?_);refine congrArg PV.bool ?_
 try simp only[lT] at *
 subst b2;subst hA;simp[bH,aj,bP,aa4,c5,cp,cp.symm,b0,b0.symm,b4,b4.symm,Bf,d0,d0.symm,f9,f9.symm]
theorem uC (A:ax)(hA:A=aj)(r:aE)(hz:∀ q∈eH r,(q:Int)<=4611686018427387904):al 151 [.agg (gY r)] (.bool (bH r)):=by
 obtain⟨a0,c0,b3,b1,a5,a9,a8,a6⟩:=r;refine ak (az:=[.agg [.ii a0,.ii c0,.ii b3,.ii b1,.ii a5,.str a9,.str a8,.str a6]]) (by rfl) ?_;have OS:(aaL a9:Int)<=4611686018427387904:=hz _ (by simp[eH]);have OT:(aaL a8:Int)<=4611686018427387904:=hz _ (by simp[eH]);have OU:(aaL a6:Int)<=4611686018427387904:=hz _ (by simp[eH]);have lT:=aS hA a6;refine aY Tryz.func151 ?_;refine gx hA 2 ?_;refine gs (gs (gr (rn hA 2 ?_)));obtain⟨j5,a1,aJ⟩:=ib (et A hA a0 1 5);refine aH aJ (.inr rfl) ?_;refine rn hA 2 ?_;refine ag 10 rfl (λc3=>?_) (λc3=>?_)
 ·
  have c4:j5=false:=ck hA c3;refine rz hA 5 ?_;refine gc (λc5=>?_) (λc5=>?_)
  ·
   refine gx hA 1 ?_;refine rt (gt ?_);refine congrArg PV.bool ?_
   try simp only[lT] at *
   have hK:=c4;rw[a1] at hK;simp only[dm,Bool.and_eq_false_iff,decide_eq_true_eq,decide_eq_false_iff_not] at hK;have n1:a0≠1:=by omega
   have n2:a0≠2:=by omega
   have n3:a0≠3:=by omega
   have n4:a0≠4:=by omega
   have n5:a0≠5:=by omega
   subst a1;subst hA;simp[bH,aj,bP,aa4,n1,n2,n3,n4,n5,c4]
  exact cu c5 (by rfl)
 have c6:j5=true:=cm hA c3;refine rn hA 2 ?_;obtain⟨i9,a3,jQ⟩:=ib (et A hA c0 1 9999);refine fC jQ (.inr rfl) ?_;refine rz hA 2 ?_;refine gc (λc9=>?_) (λc9=>?_)
 ·
  have cB:i9=false:=ck hA c9;refine gx hA 1 ?_;refine rt (gt ?_);refine congrArg PV.bool ?_
  try simp only[lT] at *
  have hK:=c6;rw[a1] at hK;simp only[dm,aaR,decide_eq_true_eq,decide_eq_false_iff_not] at hK;subst a3 a1;subst hA;simp[bH,aj,bP,aa4,hK,c6,cB]
 have cf:i9=true:=cm hA c9;refine gk (gx hA 4 ?_);refine gs (gr (rn hA 4 ?_));refine ag 22 rfl (λcZ=>?_) (λcZ=>?_)
 ·
  have a2:a0=3:=eE hA cZ;refine rz hA 10 ?_;refine gs (gr (rn hA 4 ?_));refine ag 35 rfl (λeU=>?_) (λeU=>?_)
  ·
   refine rz hA 5 ?_;refine gs (gs (gr (rn hA 2 ?_)));refine ag 41 rfl (λdF=>?_) (λdF=>?_)
   ·
    exact ay dF (by rw[a2];subst hA;rfl)
   refine rn hA 21 ?_;refine ag 62 rfl (λeL=>?_) (λeL=>?_)
   ·
    refine rn hA 4 ?_;refine ag 66 rfl (λiA=>?_) (λiA=>?_)
    ·
     have d2:a9≠(aaP #[]):=mm hA iA;refine rz hA 11 ?_;refine gc (λgG=>?_) (λgG=>?_)
     ·
      refine gx hA 1 ?_;refine rt (gt ?_);refine congrArg PV.bool ?_
      try simp only[lT] at *
      have hK:=c6;rw[a1] at hK;simp only[dm,aaR,decide_eq_true_eq,decide_eq_false_iff_not] at hK;subst a3 a1;subst hA;simp[bH,aj,bP,aa4,hK,c6,cf,a2,eU,dF,eL,d2,d2.symm]
     exact cu gG (by rfl)
    have d2:a9=(aaP #[]):=na hA iA;refine rn hA 5 ?_;refine ag 71 rfl (λiu=>?_) (λiu=>?_)
    ·
     have b6:a8≠(aaP #[]):=mm hA iu;refine rz hA 6 ?_;refine gc (λlY=>?_) (λlY=>?_)
     ·
      refine gx hA 1 ?_;refine rt (gt ?_);refine congrArg PV.bool ?_
      try simp only[lT] at *
      have hK:=c6;rw[a1] at hK;simp only[dm,aaR,decide_eq_true_eq,decide_eq_false_iff_not] at hK;subst a3 a1;subst hA;simp[bH,aj,bP,aa4,hK,c6,cf,a2,eU,dF,eL,d2,b6,b6.symm]
     exact cu lY (by rfl)
    have b6:a8=(aaP #[]):=na hA iu;refine rz hA 6 ?_;refine gc (λjw=>?_) (λjw=>?_)
    ·
     have e5:b1≠0:=gp hA jw;refine gx hA 1 ?_;refine rt (gt ?_);refine congrArg PV.bool ?_
     try simp only[lT] at *
     have hK:=c6;rw[a1] at hK;simp only[dm,aaR,decide_eq_true_eq,decide_eq_false_iff_not] at hK;subst a3 a1;subst hA;simp[bH,aj,bP,aa4,hK,c6,cf,a2,eU,dF,eL,d2,b6,e5,e5.symm]
    have e5:b1=0:=gq hA jw;refine gk (gs (gs (gr (rn hA 4 ?_))));obtain⟨i2,e0,k5⟩:=ib (et A hA b3 1 9999);refine fC k5 (.inr rfl) ?_;refine rn hA 3 ?_;refine ag 85 rfl (λjR=>?_) (λjR=>?_)
    ·
     have jW:i2=false:=ck hA jR;refine rz hA 8 ?_;refine gc (λoV=>?_) (λoV=>?_)
     ·
      refine gx hA 1 ?_;refine rt (gt ?_);refine congrArg PV.bool ?_
      try simp only[lT] at *
      have hK:=c6;rw[a1] at hK;simp only[dm,aaR,decide_eq_true_eq,decide_eq_false_iff_not] at hK;subst e0 a3 a1;subst hA;simp[bH,aj,bP,aa4,hK,c6,cf,a2,eU,dF,eL,d2,b6,e5,jW]
     exact cu oV (by rfl)
    have sW:i2=true:=cm hA jR;refine rn hA 3 ?_;refine ag 88 rfl (λpn=>?_) (λpn=>?_)
    ·
     exact ay pn (by subst hA;rfl)
    refine rz hA 5 ?_;refine gc (λrj=>?_) (λrj=>?_)
    ·
     exact ay rj (by rfl)
    refine gk (gs (gs (gr (rn hA 4 ?_))));obtain⟨g8,f4,k6⟩:=ib (et A hA a5 0 7);refine fC k6 (.inr rfl) ?_;refine rn hA 3 ?_;refine ag 101 rfl (λoo=>?_) (λoo=>?_)
    ·
     have uJ:g8=false:=ck hA oo;refine rz hA 8 ?_;refine gc (λzE=>?_) (λzE=>?_)
     ·
      refine gx hA 1 ?_;refine rt (gt ?_);refine congrArg PV.bool ?_
      try simp only[lT] at *
      have hK:=c6;rw[a1] at hK;simp only[dm,aaR,decide_eq_true_eq,decide_eq_false_iff_not] at hK;subst f4 e0 a3 a1;subst hA;simp[bH,aj,bP,aa4,hK,c6,cf,a2,eU,dF,eL,d2,b6,e5,sW,pn,uJ]
     exact cu zE (by rfl)
    have zC:g8=true:=cm hA oo;refine rn hA 3 ?_;refine ag 104 rfl (λCY=>?_) (λCY=>?_)
    ·
     exact ay CY (by subst hA;rfl)
    refine rz hA 5 ?_;refine gc (λqS=>?_) (λqS=>?_)
    ·
     exact ay qS (by rfl)
    refine gk (gs (gx hA 3 ?_));refine gc (λuK=>?_) (λuK=>?_)
    ·
     refine gx hA 5 ?_;refine rt (gt ?_);show _=(PV.bool (A.cmp .leq (A.bA a6) 100));refine congrArg PV.bool ?_
     try simp only[lT] at *
     have hK:=c6;rw[a1] at hK;simp only[dm,aaR,decide_eq_true_eq,decide_eq_false_iff_not] at hK;subst f4 e0 a3 a1;subst hA;simp[bH,aj,bP,aa4,hK,c6,cf,a2,eU,dF,eL,d2,b6,e5,sW,pn,zC,CY]
    exact cu uK (by exact cZ)
   exact absurd (show(A.eB (A.cmp .eql a0 1))=false from eL) (by rw[show(A.eB (A.cmp .eql a0 1))=true from by rw[show(A.cmp .eql a0 1)=false from by rw[a2];subst hA;rfl];subst hA;rfl];decide)
  exact cu eU (by exact cZ)
 have a2:a0≠3:=eF hA cZ;refine rn hA 5 ?_;refine ag 27 rfl (λvL=>?_) (λvL=>?_)
 ·
  have a4:a0=4:=eE hA vL;refine rz hA 5 ?_;refine gs (gr (rn hA 4 ?_));refine ag 35 rfl (λBe=>?_) (λBe=>?_)
  ·
   exact ay Be (by exact cZ)
  refine rz hA 5 ?_;refine gs (gs (gr (rn hA 2 ?_)));refine ag 41 rfl (λvM=>?_) (λvM=>?_)
  ·
   exact ay vM (by rw[a4];subst hA;rfl)
  refine rn hA 21 ?_;refine ag 62 rfl (λrr=>?_) (λrr=>?_)
  ·
   refine rn hA 4 ?_;refine ag 66 rfl (λWn=>?_) (λWn=>?_)
   ·
    have d3:a9≠(aaP #[]):=mm hA Wn;refine rz hA 11 ?_;refine gc (λM8=>?_) (λM8=>?_)
    ·
     refine gx hA 1 ?_;refine rt (gt ?_);refine congrArg PV.bool ?_
     try simp only[lT] at *
     have hK:=c6;rw[a1] at hK;simp only[dm,aaR,decide_eq_true_eq,decide_eq_false_iff_not] at hK;subst a3 a1;subst hA;simp[bH,aj,bP,aa4,hK,c6,cf,a2,a2.symm,a4,Be,vM,rr,d3,d3.symm]
    exact cu M8 (by rfl)
   have d3:a9=(aaP #[]):=na hA Wn;refine rn hA 5 ?_;refine ag 71 rfl (λuL=>?_) (λuL=>?_)
   ·
    have d6:a8≠(aaP #[]):=mm hA uL;refine rz hA 6 ?_;refine gc (λIz=>?_) (λIz=>?_)
    ·
     refine gx hA 1 ?_;refine rt (gt ?_);refine congrArg PV.bool ?_
     try simp only[lT] at *
     have hK:=c6;rw[a1] at hK;simp only[dm,aaR,decide_eq_true_eq,decide_eq_false_iff_not] at hK;subst a3 a1;subst hA;simp[bH,aj,bP,aa4,hK,c6,cf,a2,a2.symm,a4,Be,vM,rr,d3,d6,d6.symm]
    exact cu Iz (by rfl)
   have d6:a8=(aaP #[]):=na hA uL;refine rz hA 6 ?_;refine gc (λM3=>?_) (λM3=>?_)
   ·
    have e2:b1≠0:=gp hA M3;refine gx hA 1 ?_;refine rt (gt ?_);refine congrArg PV.bool ?_
    try simp only[lT] at *
    have hK:=c6;rw[a1] at hK;simp only[dm,aaR,decide_eq_true_eq,decide_eq_false_iff_not] at hK;subst a3 a1;subst hA;simp[bH,aj,bP,aa4,hK,c6,cf,a2,a2.symm,a4,Be,vM,rr,d3,d6,e2,e2.symm]
   have e2:b1=0:=gq hA M3;refine gk (gs (gs (gr (rn hA 4 ?_))));obtain⟨g7,e4,l5⟩:=ib (et A hA b3 1 9999);refine fC l5 (.inr rfl) ?_;refine rn hA 3 ?_;refine ag 85 rfl (λE8=>?_) (λE8=>?_)
   ·
    have T3:g7=false:=ck hA E8;refine rz hA 8 ?_;refine gc (λM5=>?_) (λM5=>?_)
    ·
     refine gx hA 1 ?_;refine rt (gt ?_);refine congrArg PV.bool ?_
     try simp only[lT] at *
     have hK:=c6;rw[a1] at hK;simp only[dm,aaR,decide_eq_true_eq,decide_eq_false_iff_not] at hK;subst e4 a3 a1;subst hA;simp[bH,aj,bP,aa4,hK,c6,cf,a2,a2.symm,a4,Be,vM,rr,d3,d6,e2,T3]
    exact cu M5 (by rfl)
   have Bf:g7=true:=cm hA E8;refine rn hA 3 ?_;refine ag 88 rfl (λLo=>?_) (λLo=>?_)
   ·
    exact ay Lo (by subst hA;rfl)
   refine rz hA 5 ?_;refine gc (λM6=>?_) (λM6=>?_)
   ·
    exact ay M6 (by rfl)
   refine gk (gs (gs (gr (rn hA 2 ?_))));refine ag 95 rfl (λT4=>?_) (λT4=>?_)
   ·
    refine rn hA 2 ?_;obtain⟨i1,f7,l1⟩:=ib (et A hA a5 0 7);refine fC l1 (.inr rfl) ?_;refine rn hA 3 ?_;refine ag 101 rfl (λWo=>?_) (λWo=>?_)
    ·
     have c59:i1=false:=ck hA Wo;refine rz hA 8 ?_;refine gc (λLp=>?_) (λLp=>?_)
     ·
      refine gx hA 1 ?_;refine rt (gt ?_);refine congrArg PV.bool ?_
      try simp only[lT] at *
      have hK:=c6;rw[a1] at hK;simp only[dm,aaR,decide_eq_true_eq,decide_eq_false_iff_not] at hK;subst f7 e4 a3 a1;subst hA;simp[bH,aj,bP,aa4,hK,c6,cf,a2,a2.symm,a4,Be,vM,rr,d3,d6,e2,Bf,Lo,T4,c59]
     exact cu Lp (by rfl)
    have c61:i1=true:=cm hA Wo;refine rn hA 3 ?_;refine ag 104 rfl (λWp=>?_) (λWp=>?_)
    ·
     exact absurd (show(A.eB (A.cmp .eql a0 4))=true from Wp) (by rw[show(A.eB (A.cmp .eql a0 4))=false from by rw[show(A.cmp .eql a0 4)=true from by exact vL];subst hA;rfl];decide)
    refine rz hA 5 ?_;refine gc (λM7=>?_) (λM7=>?_)
    ·
     exact ay M7 (by rfl)
    refine gk (gs (gx hA 3 ?_));refine gc (λQH=>?_) (λQH=>?_)
    ·
     exact ay QH (by exact cZ)
    refine gk (gx hA 4 ?_);refine rt (gt ?_);show _=(PV.bool (A.nZ .eql a6 (aaP #[])));refine congrArg PV.bool ?_
    try simp only[lT] at *
    have hK:=c6;rw[a1] at hK;simp only[dm,aaR,decide_eq_true_eq,decide_eq_false_iff_not] at hK;subst f7 e4 a3 a1;subst hA;simp[bH,aj,dH,kQ,yL,abc,bP,oP,aa4,hK,c6,cf,a2,a2.symm,a4,Be,vM,rr,d3,d6,e2,Bf,Lo,T4,c61,Wp]
   exact cu T4 (by exact vL)
  exact absurd (show(A.eB (A.cmp .eql a0 1))=false from rr) (by rw[show(A.eB (A.cmp .eql a0 1))=true from by rw[show(A.cmp .eql a0 1)=false from by rw[a4];subst hA;rfl];subst hA;rfl];decide)
 have a4:a0≠4:=eF hA vL;refine rz hA 5 ?_;refine gs (gr (rn hA 4 ?_));refine ag 35 rfl (λoY=>?_) (λoY=>?_)
 ·
  exact ay oY (by exact cZ)
 refine rz hA 5 ?_;refine gs (gs (gr (rn hA 2 ?_)));refine ag 41 rfl (λIA=>?_) (λIA=>?_)
 ·
  have a7:a0=1:=eE hA IA;refine rn hA 2 ?_;obtain⟨i3,b7,k2⟩:=ib (nd A hA a9 (by first | assumption | omega));refine fC k2 (.inr rfl) ?_;refine rn hA 2 ?_;refine ag 46 rfl (λWq=>?_) (λWq=>?_)
  ·
   have c70:i3=false:=ck hA Wq;refine rz hA 31 ?_;refine gc (λc71=>?_) (λc71=>?_)
   ·
    refine gx hA 1 ?_;refine rt (gt ?_);refine congrArg PV.bool ?_
    try simp only[lT] at *
    have hK:=c6;rw[a1] at hK;simp only[dm,aaR,decide_eq_true_eq,decide_eq_false_iff_not] at hK;subst b7 a3 a1;subst hA;simp[bH,aj,bP,aa4,hK,c6,cf,a2,a2.symm,a4,a4.symm,oY,a7,c70]
   exact cu c71 (by rfl)
  have QI:i3=true:=cm hA Wq;refine rn hA 2 ?_;obtain⟨i0,c2,l2⟩:=ib (nd A hA a8 (by first | assumption | omega));refine fC l2 (.inr rfl) ?_;refine rn hA 3 ?_;refine ag 52 rfl (λWr=>?_) (λWr=>?_)
  ·
   have c76:i0=false:=ck hA Wr;refine rz hA 25 ?_;refine gc (λc77=>?_) (λc77=>?_)
   ·
    refine gx hA 1 ?_;refine rt (gt ?_);refine congrArg PV.bool ?_
    try simp only[lT] at *
    have hK:=c6;rw[a1] at hK;simp only[dm,aaR,decide_eq_true_eq,decide_eq_false_iff_not] at hK;subst c2 b7 a3 a1;subst hA;simp[bH,aj,bP,aa4,hK,c6,cf,a2,a2.symm,a4,a4.symm,oY,a7,QI,c76]
   exact cu c77 (by rfl)
  have T5:i0=true:=cm hA Wr;refine rn hA 2 ?_;obtain⟨g9,d5,l7⟩:=ib (et A hA b1 1 10000);refine fC l7 (.inr rfl) ?_;refine rn hA 4 ?_;refine ag 59 rfl (λWs=>?_) (λWs=>?_)
  ·
   have c82:g9=false:=ck hA Ws;refine rz hA 18 ?_;refine gc (λc83=>?_) (λc83=>?_)
   ·
    refine gx hA 1 ?_;refine rt (gt ?_);refine congrArg PV.bool ?_
    try simp only[lT] at *
    have hK:=c6;rw[a1] at hK;simp only[dm,aaR,decide_eq_true_eq,decide_eq_false_iff_not] at hK;subst d5 c2 b7 a3 a1;subst hA;simp[bH,aj,bP,aa4,hK,c6,cf,a2,a2.symm,a4,a4.symm,oY,a7,QI,T5,c82]
   exact cu c83 (by rfl)
  have Wt:g9=true:=cm hA Ws;refine rn hA 3 ?_;refine ag 62 rfl (λQJ=>?_) (λQJ=>?_)
  ·
   exact absurd (show(A.eB (A.cmp .eql a0 1))=true from QJ) (by rw[show(A.eB (A.cmp .eql a0 1))=false from by rw[show(A.cmp .eql a0 1)=true from by exact IA];subst hA;rfl];decide)
  refine rz hA 15 ?_;refine gc (λc86=>?_) (λc86=>?_)
  ·
   exact ay c86 (by rfl)
  refine gk (gs (gs (gr (rn hA 2 ?_))));refine ag 79 rfl (λQK=>?_) (λQK=>?_)
  ·
   exact ay QK (by rw[a7];subst hA;rfl)
  refine rn hA 9 ?_;refine ag 88 rfl (λQL=>?_) (λQL=>?_)
  ·
   refine rz hA 5 ?_;refine gc (λWu=>?_) (λWu=>?_)
   ·
    have f1:b3≠0:=gp hA Wu;refine gx hA 1 ?_;refine rt (gt ?_);refine congrArg PV.bool ?_
    try simp only[lT] at *
    have hK:=c6;rw[a1] at hK;simp only[dm,aaR,decide_eq_true_eq,decide_eq_false_iff_not] at hK;subst d5 c2 b7 a3 a1;subst hA;simp[bH,aj,bP,aa4,hK,c6,cf,a2,a2.symm,a4,a4.symm,oY,a7,QI,T5,Wt,QJ,QK,QL,f1,f1.symm]
   have f1:b3=0:=gq hA Wu;refine gk (gs (gs (gr (rn hA 2 ?_))));refine ag 95 rfl (λT6=>?_) (λT6=>?_)
   ·
    exact ay T6 (by exact vL)
   refine rn hA 9 ?_;refine ag 104 rfl (λT7=>?_) (λT7=>?_)
   ·
    refine rz hA 5 ?_;refine gc (λWv=>?_) (λWv=>?_)
    ·
     have g5:a5≠0:=gp hA Wv;refine gx hA 1 ?_;refine rt (gt ?_);refine congrArg PV.bool ?_
     try simp only[lT] at *
     have hK:=c6;rw[a1] at hK;simp only[dm,aaR,decide_eq_true_eq,decide_eq_false_iff_not] at hK;subst d5 c2 b7 a3 a1;subst hA;simp[bH,aj,bP,aa4,hK,c6,cf,a2,a2.symm,a4,a4.symm,oY,a7,QI,T5,Wt,QJ,QK,QL,f1,T6,T7,g5,g5.symm]
    have g5:a5=0:=gq hA Wv;refine gk (gs (gx hA 3 ?_));refine gc (λc93=>?_) (λc93=>?_)
    ·
     exact ay c93 (by exact cZ)
    refine gk (gx hA 4 ?_);refine rt (gt ?_);show _=(PV.bool (A.nZ .eql a6 (aaP #[])));refine congrArg PV.bool ?_
    try simp only[lT] at *
    have hK:=c6;rw[a1] at hK;simp only[dm,aaR,decide_eq_true_eq,decide_eq_false_iff_not] at hK;subst d5 c2 b7 a3 a1;subst hA;simp[bH,aj,dH,kQ,yL,abc,bP,oP,aa4,hK,c6,cf,a2,a2.symm,a4,a4.symm,oY,a7,QI,T5,Wt,QJ,QK,QL,f1,T6,T7,g5]
   exact absurd (show(A.eB (A.cmp .eql a0 4))=false from T7) (by rw[show(A.eB (A.cmp .eql a0 4))=true from by rw[show(A.cmp .eql a0 4)=false from by exact vL];subst hA;rfl];decide)
  exact absurd (show(A.eB (A.cmp .eql a0 5))=false from QL) (by rw[show(A.eB (A.cmp .eql a0 5))=true from by rw[show(A.cmp .eql a0 5)=false from by rw[a7];subst hA;rfl];subst hA;rfl];decide)
 have a7:a0≠1:=eF hA IA;refine rn hA 21 ?_;refine ag 62 rfl (λBg=>?_) (λBg=>?_)
 ·
  refine rn hA 4 ?_;refine ag 66 rfl (λWw=>?_) (λWw=>?_)
  ·
   have b8:a9≠(aaP #[]):=mm hA Ww;refine rz hA 11 ?_;refine gc (λc96=>?_) (λc96=>?_)
   ·
    refine gx hA 1 ?_;refine rt (gt ?_);refine congrArg PV.bool ?_
    try simp only[lT] at *
    have hK:=c6;rw[a1] at hK;simp only[dm,aaR,decide_eq_true_eq,decide_eq_false_iff_not] at hK;subst a3 a1;subst hA;simp[bH,aj,bP,aa4,hK,c6,cf,a2,a2.symm,a4,a4.symm,oY,a7,a7.symm,Bg,b8,b8.symm]
   exact cu c96 (by rfl)
  have b8:a9=(aaP #[]):=na hA Ww;refine rn hA 5 ?_;refine ag 71 rfl (λWx=>?_) (λWx=>?_)
  ·
   have b9:a8≠(aaP #[]):=mm hA Wx;refine rz hA 6 ?_;refine gc (λc98=>?_) (λc98=>?_)
   ·
    refine gx hA 1 ?_;refine rt (gt ?_);refine congrArg PV.bool ?_
    try simp only[lT] at *
    have hK:=c6;rw[a1] at hK;simp only[dm,aaR,decide_eq_true_eq,decide_eq_false_iff_not] at hK;subst a3 a1;subst hA;simp[bH,aj,bP,aa4,hK,c6,cf,a2,a2.symm,a4,a4.symm,oY,a7,a7.symm,Bg,b8,b9,b9.symm]
   exact cu c98 (by rfl)
  have b9:a8=(aaP #[]):=na hA Wx;refine rz hA 6 ?_;refine gc (λWy=>?_) (λWy=>?_)
  ·
   have d1:b1≠0:=gp hA Wy;refine gx hA 1 ?_;refine rt (gt ?_);refine congrArg PV.bool ?_
   try simp only[lT] at *
   have hK:=c6;rw[a1] at hK;simp only[dm,aaR,decide_eq_true_eq,decide_eq_false_iff_not] at hK;subst a3 a1;subst hA;simp[bH,aj,bP,aa4,hK,c6,cf,a2,a2.symm,a4,a4.symm,oY,a7,a7.symm,Bg,b8,b9,d1,d1.symm]
  have d1:b1=0:=gq hA Wy;refine gk (gs (gs (gr (rn hA 2 ?_))));refine ag 79 rfl (λf0=>?_) (λf0=>?_)
  ·
   have b5:a0=5:=eE hA f0;refine rn hA 2 ?_;obtain⟨f6,d7,k1⟩:=ib (et A hA b3 1 9999);refine fC k1 (.inr rfl) ?_;refine rn hA 3 ?_;refine ag 85 rfl (λi5=>?_) (λi5=>?_)
   ·
    have l4:f6=false:=ck hA i5;refine rz hA 8 ?_;refine gc (λj1=>?_) (λj1=>?_)
    ·
     refine gx hA 1 ?_;refine rt (gt ?_);refine congrArg PV.bool ?_
     try simp only[lT] at *
     have hK:=c6;rw[a1] at hK;simp only[dm,aaR,decide_eq_true_eq,decide_eq_false_iff_not] at hK;subst d7 a3 a1;subst hA;simp[bH,aj,bP,aa4,hK,c6,cf,a2,a2.symm,a4,a4.symm,oY,a7,a7.symm,Bg,b8,b9,d1,b5,l4]
    exact cu j1 (by rfl)
   have j3:f6=true:=cm hA i5;refine rn hA 3 ?_;refine ag 88 rfl (λg6=>?_) (λg6=>?_)
   ·
    exact absurd (show(A.eB (A.cmp .eql a0 5))=true from g6) (by rw[show(A.eB (A.cmp .eql a0 5))=false from by rw[show(A.cmp .eql a0 5)=true from by exact f0];subst hA;rfl];decide)
   refine rz hA 5 ?_;refine gc (λj2=>?_) (λj2=>?_)
   ·
    exact ay j2 (by rfl)
   refine gk (gs (gs (gr (rn hA 2 ?_))));refine ag 95 rfl (λg0=>?_) (λg0=>?_)
   ·
    exact ay g0 (by exact vL)
   refine rn hA 9 ?_;refine ag 104 rfl (λg1=>?_) (λg1=>?_)
   ·
    refine rz hA 5 ?_;refine gc (λi7=>?_) (λi7=>?_)
    ·
     have e7:a5≠0:=gp hA i7;refine gx hA 1 ?_;refine rt (gt ?_);refine congrArg PV.bool ?_
     try simp only[lT] at *
     have hK:=c6;rw[a1] at hK;simp only[dm,aaR,decide_eq_true_eq,decide_eq_false_iff_not] at hK;subst d7 a3 a1;subst hA;simp[bH,aj,bP,aa4,hK,c6,cf,a2,a2.symm,a4,a4.symm,oY,a7,a7.symm,Bg,b8,b9,d1,b5,j3,g6,g0,g1,e7,e7.symm]
    have e7:a5=0:=gq hA i7;refine gk (gs (gx hA 3 ?_));refine gc (λj6=>?_) (λj6=>?_)
    ·
     exact ay j6 (by exact cZ)
    refine gk (gx hA 4 ?_);refine rt (gt ?_);show _=(PV.bool (A.nZ .eql a6 (aaP #[])));refine congrArg PV.bool ?_
    try simp only[lT] at *
    have hK:=c6;rw[a1] at hK;simp only[dm,aaR,decide_eq_true_eq,decide_eq_false_iff_not] at hK;subst d7 a3 a1;subst hA;simp[bH,aj,dH,kQ,yL,abc,bP,oP,aa4,hK,c6,cf,a2,a2.symm,a4,a4.symm,oY,a7,a7.symm,Bg,b8,b9,d1,b5,j3,g6,g0,g1,e7]
   exact absurd (show(A.eB (A.cmp .eql a0 4))=false from g1) (by rw[show(A.eB (A.cmp .eql a0 4))=true from by rw[show(A.cmp .eql a0 4)=false from by exact vL];subst hA;rfl];decide)
  have b5:a0≠5:=eF hA f0;refine rn hA 9 ?_;refine ag 88 rfl (λf2=>?_) (λf2=>?_)
  ·
   refine rz hA 5 ?_;refine gc (λi6=>?_) (λi6=>?_)
   ·
    have d9:b3≠0:=gp hA i6;refine gx hA 1 ?_;refine rt (gt ?_);refine congrArg PV.bool ?_
    try simp only[lT] at *
    have hK:=c6;rw[a1] at hK;simp only[dm,aaR,decide_eq_true_eq,decide_eq_false_iff_not] at hK;have n2:a0=2:=by omega
    subst a3 a1;subst hA;simp[bH,aj,bP,aa4,n2,c6,cf,a2,a2.symm,a4,a4.symm,oY,a7,a7.symm,Bg,b8,b9,d1,b5,b5.symm,f2,d9,d9.symm]
   have d9:b3=0:=gq hA i6;refine gk (gs (gs (gr (rn hA 2 ?_))));refine ag 95 rfl (λg3=>?_) (λg3=>?_)
   ·
    exact ay g3 (by exact vL)
   refine rn hA 9 ?_;refine ag 104 rfl (λg2=>?_) (λg2=>?_)
   ·
    refine rz hA 5 ?_;refine gc (λi4=>?_) (λi4=>?_)
    ·
     have e8:a5≠0:=gp hA i4;refine gx hA 1 ?_;refine rt (gt ?_);refine congrArg PV.bool ?_
     try simp only[lT] at *
     have hK:=c6;rw[a1] at hK;simp only[dm,aaR,decide_eq_true_eq,decide_eq_false_iff_not] at hK;have n2:a0=2:=by omega
     subst a3 a1;subst hA;simp[bH,aj,bP,aa4,n2,c6,cf,a2,a2.symm,a4,a4.symm,oY,a7,a7.symm,Bg,b8,b9,d1,b5,b5.symm,f2,d9,g3,g2,e8,e8.symm]
    have e8:a5=0:=gq hA i4;refine gk (gs (gx hA 3 ?_));refine gc (λj7=>?_) (λj7=>?_)
    ·
     exact ay j7 (by exact cZ)
    refine gk (gx hA 4 ?_);refine rt (gt ?_);show _=(PV.bool (A.nZ .eql a6 (aaP #[])));refine congrArg PV.bool ?_
    try simp only[lT] at *
    have hK:=c6;rw[a1] at hK;simp only[dm,aaR,decide_eq_true_eq,decide_eq_false_iff_not] at hK;have n2:a0=2:=by omega
    subst a3 a1;subst hA;simp[bH,aj,dH,kQ,yL,abc,bP,oP,aa4,n2,c6,cf,a2,a2.symm,a4,a4.symm,oY,a7,a7.symm,Bg,b8,b9,d1,b5,b5.symm,f2,d9,g3,g2,e8]
   exact absurd (show(A.eB (A.cmp .eql a0 4))=false from g2) (by rw[show(A.eB (A.cmp .eql a0 4))=true from by rw[show(A.cmp .eql a0 4)=false from by exact vL];subst hA;rfl];decide)
  exact absurd (show(A.eB (A.cmp .eql a0 5))=false from f2) (by rw[show(A.eB (A.cmp .eql a0 5))=true from by rw[show(A.cmp .eql a0 5)=false from by exact f0];subst hA;rfl];decide)
 exact absurd (show(A.eB (A.cmp .eql a0 1))=false from Bg) (by rw[show(A.eB (A.cmp .eql a0 1))=true from by rw[show(A.cmp .eql a0 1)=false from by exact IA];subst hA;rfl];decide)
theorem vO {xs:List ae}{i:Nat}{x:ae}(h:xs[i]? =some x):lU (xs.take i) (xs.drop i)=((qO x && !((xs.take i).any (jk x))) && lU (xs.take (i+1)) (xs.drop (i+1))):=by
 rw[List.take_add_one,h];obtain⟨hl,rfl⟩:=List.getElem?_eq_some_iff.1 h;rw[List.drop_eq_getElem_cons hl];rfl
theorem QM {xs:List ae}{i:Nat}(h:xs.length<=i):lU (xs.take i) (xs.drop i)=true:=by
 rw[abk h];rfl
theorem Wz {a:Int}(h:200 < a):¬ a<=200:=by omega
theorem UQ (A:ax)(hA:A=aj)(y:ae)(q0 q1 q2 q3 q4 q5:Int)(q6 q7 q8:ByteArray):al 193 [.agg (aW y),.rd [.ii q0,.ii q1,.ii q2,.ii q3,.ii q4,.ii q5,.str q6,.str q7,.str q8]] (.bool (jk (⟨q0,⟨q1,q2,q3,q4,q5,q6,q7,q8⟩⟩:ae) y)):=by
 obtain⟨e8,⟨e4,d7,e6,e0,d8,e2,e1,e3⟩⟩:=y;refine ak (az:=[.agg [.ii e8,.ii e4,.ii d7,.ii e6,.ii e0,.ii d8,.str e2,.str e1,.str e3],.rd [.ii q0,.ii q1,.ii q2,.ii q3,.ii q4,.ii q5,.str q6,.str q7,.str q8]]) (by rfl) ?_;refine aY Tryz.func193 ?_;refine gx hA 2 ?_;refine gs (gr (rn hA 6 ?_));refine ag 9 rfl (λc1=>?_) (λc1=>?_)
 ·
  have aV:e8=q0:=eE hA c1;refine rz hA 5 ?_;refine rt (gt ?_);show _=(PV.bool (A.eB (A.sd [.ii e8,.ii e4,.ii d7,.ii e6,.ii e0,.ii d8,.str e2,.str e1,.str e3] [.ii q0,.ii q1,.ii q2,.ii q3,.ii q4,.ii q5,.str q6,.str q7,.str q8])));refine congrArg PV.bool ?_;have hq:jk (⟨q0,⟨q1,q2,q3,q4,q5,q6,q7,q8⟩⟩:ae) (⟨e8,⟨e4,d7,e6,e0,d8,e2,e1,e3⟩⟩:ae)= !(dH (aW (⟨e8,⟨e4,d7,e6,e0,d8,e2,e1,e3⟩⟩:ae)) (aW (⟨q0,⟨q1,q2,q3,q4,q5,q6,q7,q8⟩⟩:ae))):=by simp[jk,aV]
  rw[hq];subst hA;rfl
 have aV:e8≠q0:=eF hA c1;refine rz hA 5 ?_;refine rt (gt ?_);refine congrArg PV.bool ?_;simp[jk,aV,aV.symm]
def yM (p0:RR)(p1 p2 p3 p4 p5 p6:Int)(p7 p8 p9:ByteArray)(fj fc:Int):St:={sl:=.sl 9 p0::.fn 193 [.rd [.ii p1,.ii p2,.ii p3,.ii p4,.ii p5,.ii p6,.str p7,.str p8,.str p9]]::ql++.ii fj::.ii fc::tk,bl:=[]}
theorem Ck (A:ax)(hA:A=aj)(xs:List ae)(hx:(aaK xs:Int)<=4611686018427387904)(q0 q1 q2 q3 q4 q5:Int)(q6 q7 q8:ByteArray):al 244 [.sl 9 (aaN aW xs),.fn 193 [.rd [.ii q0,.ii q1,.ii q2,.ii q3,.ii q4,.ii q5,.str q6,.str q7,.str q8]]] (.ii (vI (jk (⟨q0,⟨q1,q2,q3,q4,q5,q6,q7,q8⟩⟩:ae)) xs 0)):=by
 obtain⟨b1,d4,d3⟩:=nr hA aW xs;refine ak (az:=[.sl 9 b1,.fn 193 [.rd [.ii q0,.ii q1,.ii q2,.ii q3,.ii q4,.ii q5,.str q6,.str q7,.str q8]]]) (by subst d4;rfl) ?_;refine aY Tryz.func244 ?_;refine gx hA 1 ?_;refine gs (gx hA 3 ?_);refine af ?_;refine aF (λσ m=>∃(i:Nat) (n:Int),σ=(yM b1 q0 q1 q2 q3 q4 q5 q6 q7 q8 (A.ao b1) n)/\(n=(i:Int)/\i<=aaK xs/\vI (jk (⟨q0,⟨q1,q2,q3,q4,q5,q6,q7,q8⟩⟩:ae)) xs 0=vI (jk (⟨q0,⟨q1,q2,q3,q4,q5,q6,q7,q8⟩⟩:ae)) (xs.drop i) i)/\m=aaK xs - i) _ [] [0,1,7,8] [] _ rfl (by cbv) ⟨0,0,rfl,?_,rfl⟩ (λσ m hI=>?_)
 ·
  exact⟨rfl,aaW _,rfl⟩
 obtain⟨i,n,rfl,⟨hn,hi,hE⟩,rfl⟩:=hI;refine gx hA 1 ?_;refine gs ?_;refine gc (λc1=>?_) (λc1=>?_)
 ·
  have aV:n < (A.ao b1):=aP hA c1;refine gk (gs (af (gx hA 2 ?_)));refine gs (gr (rn hA 3 ?_));obtain⟨f2,i8,x2,cX,g9⟩:=ga xs n (by omega) (by omega);obtain⟨a8,⟨a2,a1,a7,a5,a0,a4,a6,a3⟩⟩:=x2;have f4:b1[(aaO n)]? =some [.ii a8,.ii a2,.ii a1,.ii a7,.ii a5,.ii a0,.str a4,.str a6,.str a3]:=by
   exact bC aW d4 cX
  have d6:=cX;rw[hn] at d6;have d6:(xs)[i]? =some (⟨a8,⟨a2,a1,a7,a5,a0,a4,a6,a3⟩⟩:ae):=d6;refine ee f2 f4 ?_;refine rn hA 1 ?_;obtain⟨g0,e5,cL⟩:=kV (jk (⟨q0,⟨q1,q2,q3,q4,q5,q6,q7,q8⟩⟩:ae) (⟨a8,⟨a2,a1,a7,a5,a0,a4,a6,a3⟩⟩:ae)) (UQ A hA (⟨a8,⟨a2,a1,a7,a5,a0,a4,a6,a3⟩⟩:ae) q0 q1 q2 q3 q4 q5 q6 q7 q8);refine aH cL (.inr rfl) ?_;refine od ?_;refine gc (λc5=>?_) (λc5=>?_)
  ·
   refine gx hA 2 ?_;refine rt (gt ?_);refine congrArg (PV.int .i64) ?_;rw[hE,JQ d6];subst e5;simp[aV,c5,hn]
  refine gk (gy hA 2 ?_);refine⟨_,_,?_,by cbv,i+1,(A.num .add .i64 n 1),rfl,?_,rfl⟩
  ·
   omega
  refine⟨by rw[au hA (by omega) (by omega)];omega,by omega,?_⟩;rw[hE,JQ d6];subst e5;simp[aV,c5]
 have aV:(A.ao b1)<=n:=aQ hA c1;refine aI (gE ?_);refine gx hA 1 ?_;refine rt (gt ?_);refine congrArg (PV.int .i64) ?_;rw[hE];exact Qx (by omega)
theorem yN (A:ax)(hA:A=aj)(xs:List ae)(hx:(aaK xs:Int)<=4611686018427387904)(q0 q1 q2 q3 q4 q5:Int)(q6 q7 q8:ByteArray):al 192 [.sl 9 (aaN aW xs),.fn 193 [.rd [.ii q0,.ii q1,.ii q2,.ii q3,.ii q4,.ii q5,.str q6,.str q7,.str q8]]] (.bool (acw xs (jk (⟨q0,⟨q1,q2,q3,q4,q5,q6,q7,q8⟩⟩:ae)))):=by
 obtain⟨b1,d4,d3⟩:=nr hA aW xs;refine ak (az:=[.sl 9 b1,.fn 193 [.rd [.ii q0,.ii q1,.ii q2,.ii q3,.ii q4,.ii q5,.str q6,.str q7,.str q8]]]) (by subst d4;rfl) ?_;refine aY Tryz.func192 ?_;refine gx hA 1 ?_;refine gs (gr (rn hA 2 ?_));obtain⟨i5,i0,aJ⟩:=tb (Ck A hA xs (by first | omega | (rw [aa1];omega)) q0 q1 q2 q3 q4 q5 q6 q7 q8);refine aH aJ (.inr rfl) ?_ (hv:=by subst d4;rfl);refine rz hA 2 ?_;refine rt (gt ?_);show _=(PV.bool (A.cmp .geq i5 0));refine congrArg PV.bool ?_;rw[i0];exact(MW hA _).symm
def WA (p0:RR)(p1 p2:Int):St:={sl:=.sl 9 p0::Vr++.sl 9 p0::.ii p1::.ii p2::rP,bl:=[]}
theorem rI (A:ax)(hA:A=aj)(xs:List ae)(hz:∀ q∈il xs,(q:Int)<=4611686018427387904):al 119 [.sl 9 (aaN aW xs)] (.bool (dY xs)):=by
 obtain⟨b1,d4,d3⟩:=nr hA aW xs;refine ak (az:=[.sl 9 b1]) (by subst d4;rfl) ?_;have hx:(aaK xs:Int)<=4611686018427387904:=hz _ (aa2 ..);refine aY Tryz.func119 ?_;refine gx hA 1 ?_;refine gs (gx hA 3 ?_);refine gc (λc1=>?_) (λc1=>?_)
 ·
  have aV:200 < (A.ao b1):=dJ hA c1;refine gx hA 1 ?_;refine rt (gt ?_);refine congrArg PV.bool ?_
  try simp only[aS hA,d3] at *
  subst hA;simp[dY,Wz aV,aj,aV]
 have aV:(A.ao b1)<=200:=dL hA c1;refine gk (gs (gx hA 3 ?_));refine af ?_;refine aF (λσ m=>∃(i:Nat) (n:Int),σ=(WA b1 (A.ao b1) n)/\(n=(i:Int)/\i<=aaK xs/\lU [] xs=lU (xs.take i) (xs.drop i))/\m=aaK xs - i) _ [] [0,8,9,10] [] _ rfl (by cbv) ⟨0,0,rfl,?_,rfl⟩ (λσ m hI=>?_)
 ·
  exact⟨rfl,aaW _,rfl⟩
 obtain⟨i,n,rfl,⟨hn,hi,hE⟩,rfl⟩:=hI;refine gx hA 1 ?_;refine gs ?_;refine gc (λc2=>?_) (λc2=>?_)
 ·
  have iY:n < (A.ao b1):=aP hA c2;refine gk (gs (af (gs (gr (rn hA 1 ?_)))));obtain⟨i1,j3,x3,tc,i3⟩:=ga xs n (by omega) (by omega);obtain⟨e7,⟨d0,b9,d5,d1,c0,d2,c4,c3⟩⟩:=x3;have i2:b1[(aaO n)]? =some [.ii e7,.ii d0,.ii b9,.ii d5,.ii d1,.ii c0,.str d2,.str c4,.str c3]:=by
   exact bC aW d4 tc
  have e9:=tc;rw[hn] at e9;have e9:(xs)[i]? =some (⟨e7,⟨d0,b9,d5,d1,c0,d2,c4,c3⟩⟩:ae):=e9;have zR:∀ q∈eH (ae.Rec (⟨e7,⟨d0,b9,d5,d1,c0,d2,c4,c3⟩⟩:ae)),(q:Int)<=4611686018427387904:=λq hq=>hz q (aaX _ (abf.2 ⟨_,i3,by simp only[pw,aaV];exact .inl hq⟩));refine ee i1 i2 ?_;refine rz hA 4 ?_;refine gs (gs (gr (rn hA 2 ?_)));obtain⟨g4,f1,eu⟩:=ib (ig A hA e7 1 1000000000);refine aH eu (.inr rfl) ?_;refine rn hA 2 ?_;refine ag 19 rfl (λc6=>?_) (λc6=>?_)
  ·
   have c7:g4=false:=ck hA c6;refine rz hA 5 ?_;refine gc (λc8=>?_) (λc8=>?_)
   ·
    refine gx hA 1 ?_;refine rt (gt ?_);refine congrArg PV.bool ?_
    try simp only[aS hA,d3] at *
    subst f1;have hI:lU [] xs=false:=by
     rw[hE,vO e9];subst hn
     try simp only[abb] at *
     simp[qO,aV,abd.2 aV,iY,c7]
    subst hA;simp[dY,hI,aj,aV,abd.2 aV,iY,c7]
   exact cu c8 (by rfl)
  have c9:g4=true:=cm hA c6;refine rn hA 2 ?_;obtain⟨g1,f5,i4⟩:=kV (bH (⟨d0,b9,d5,d1,c0,d2,c4,c3⟩:aE)) (qK A hA (⟨d0,b9,d5,d1,c0,d2,c4,c3⟩:aE) zR);refine fC i4 (.inr rfl) ?_;refine rz hA 2 ?_;refine gc (λcZ=>?_) (λcZ=>?_)
  ·
   have eU:g1=false:=ck hA cZ;refine gx hA 1 ?_;refine rt (gt ?_);refine congrArg PV.bool ?_
   try simp only[aS hA,d3] at *
   subst f5 f1;have hI:lU [] xs=false:=by
    rw[hE,vO e9];subst hn
    try simp only[abb] at *
    simp[qO,aV,abd.2 aV,iY,c9,eU]
   subst hA;simp[dY,hI,aj,aV,abd.2 aV,iY,c9,eU]
  have dF:g1=true:=cm hA cZ;refine gk (gs (gr (rn hA 2 ?_)));obtain⟨u15,g6⟩:=nm ((abi (aaO 0) b1).take (aaO n - aaO 0):RR);have g5:u15=aaN aW (aa8 (aaO n) xs):=by rw[g6,d4];exact(List.map_take ..).symm
  have g8:=ab hA g5;refine bO rfl rfl (AJ rfl rfl rfl rfl rfl rfl (by decide) (by omega) (by rw[d4,List.length_map];omega) rfl g6) ?_;refine rn hA 1 ?_;obtain⟨i9,f8,i6⟩:=ib (yN A hA (aa8 (aaO n) xs) (by first | omega | (rw [aa1];omega)) e7 d0 b9 d5 d1 c0 d2 c4 c3);refine aH i6 (.inl trivial) ?_ (hv:=by subst g5;rfl);refine od ?_;refine gc (λiu=>?_) (λiu=>?_)
  ·
   refine gx hA 1 ?_;refine rt (gt ?_);refine congrArg PV.bool ?_
   try simp only[aS hA,d3,g8] at *
   subst f8 f5 f1;have hI:lU [] xs=false:=by
    rw[hE,vO e9];subst hn
    try simp only[abb] at *
    simp[qO,aV,abd.2 aV,iY,c9,dF,iu]
   subst hA;simp[dY,hI,aj,aV,abd.2 aV,iY,c9,dF,iu]
  refine gk (gy hA 2 ?_);refine⟨_,_,?_,by cbv,i+1,(A.num .add .i64 n 1),rfl,?_,rfl⟩
  ·
   omega
  try simp only[aS hA,d3,g8] at *
  subst f8 f5 f1;refine⟨by rw[au hA (by omega) (by omega)];omega,by omega,?_⟩;rw[hE,vO e9];subst hn
  try simp only[abb] at *
  simp[qO,aV,abd.2 aV,iY,c9,dF,iu]
 have iY:(A.ao b1)<=n:=aQ hA c2;refine aI (gE ?_);refine gx hA 1 ?_;refine rt (gt ?_);refine congrArg PV.bool ?_
 try simp only[aS hA,d3] at *
 have hI:lU [] xs=true:=by rw[hE,QM (by omega)]
 subst hA;simp[dY,hI,aj,aV,abd.2 aV,iY,abd.2 iY]
def Zd (p0:RR)(p1:Int):St:={sl:=.sl 9 p0::.aa::.aa::.ii p1::yd,bl:=[]}
def Ze (p0:RR)(p1 p2 p3 p4 p5 p6 p7 p8:Int)(p9 fj fc:ByteArray)(ku ou:Bool):St:={sl:=.sl 9 p0::.aa::.aa::.ii p1::.ii p2::BI++.sl 9 p0::.ii p1::.rd [.ii p3,.ii p4,.ii p5,.ii p6,.ii p7,.ii p8,.str p9,.str fj,.str fc]::.rd [.ii p4,.ii p5,.ii p6,.ii p7,.ii p8,.str p9,.str fj,.str fc]::.agg [.ii p4,.ii p5,.ii p6,.ii p7,.ii p8,.str p9,.str fj,.str fc]::.bool ku::.bool ou::JB,bl:=[]}
theorem xD (A:ax)(hA:A=aj)(xs:List ae)(hz:∀ q∈il xs,(q:Int)<=4611686018427387904):al 91 [.sl 9 (aaN aW xs)] (.bool (dY xs)):=by
 obtain⟨b1,d4,d3⟩:=nr hA aW xs;refine ak (az:=[.sl 9 b1]) (by subst d4;rfl) ?_;have hx:(aaK xs:Int)<=4611686018427387904:=hz _ (aa2 ..);refine aY Tryz.func91 ?_;refine gx hA 1 ?_;refine gs (gx hA 1 ?_);refine af ?_;refine aF (λσ m=>∃(i:Nat) (n:Int),σ=(Zd b1 n)/\(n=(i:Int)/\i<=aaK xs/\lU [] xs=lU (xs.take i) (xs.drop i))/\m=aaK xs - i) _ [] [0,3] [] _ rfl (by cbv) ⟨0,0,rfl,?_,rfl⟩ (λσ m hI=>?_)
 ·
  exact⟨rfl,aaW _,rfl⟩
 obtain⟨i,n,rfl,⟨hn,hi,hE⟩,rfl⟩:=hI;refine gs (gx hA 4 ?_);refine gc (λc1=>?_) (λc1=>?_)
 ·
  have aV:n < (A.ao b1):=aP hA c1;refine gk (gs (af (gs (gs (gr (rn hA 2 ?_))))));obtain⟨f2,i8,x2,cX,g9⟩:=ga xs n (by omega) (by omega);obtain⟨a8,⟨a2,a1,a7,a5,a0,a4,a6,a3⟩⟩:=x2;have f4:b1[(aaO n)]? =some [.ii a8,.ii a2,.ii a1,.ii a7,.ii a5,.ii a0,.str a4,.str a6,.str a3]:=by
   exact bC aW d4 cX
  have d6:=cX;rw[hn] at d6;have d6:(xs)[i]? =some (⟨a8,⟨a2,a1,a7,a5,a0,a4,a6,a3⟩⟩:ae):=d6;have zR:∀ q∈eH (ae.Rec (⟨a8,⟨a2,a1,a7,a5,a0,a4,a6,a3⟩⟩:ae)),(q:Int)<=4611686018427387904:=λq hq=>hz q (aaX _ (abf.2 ⟨_,g9,by simp only[pw,aaV];exact .inl hq⟩));refine ee f2 f4 ?_;refine rn hA 2 ?_;obtain⟨g0,e5,cL⟩:=ib (et A hA a8 1 1000000000);refine aH cL (.inr rfl) ?_;refine rn hA 2 ?_;refine ag 18 rfl (λc5=>?_) (λc5=>?_)
  ·
   have c6:g0=false:=ck hA c5;refine rz hA 8 ?_;refine gc (λc7=>?_) (λc7=>?_)
   ·
    refine gx hA 1 ?_;refine rt (gt ?_);refine congrArg PV.bool ?_
    try simp only[aS hA,d3] at *
    subst e5;have hI:lU [] xs=false:=by
     rw[hE,vO d6];simp[qO,aV,c6]
    subst hA;simp[dY,hI,aj,aV,c6]
   exact cu c7 (by rfl)
  have c8:g0=true:=cm hA c5;refine rn hA 2 ?_;refine qf rfl rfl rfl rfl (jO rfl rfl rfl rfl rfl f2 rfl f4) ?_;refine rn hA 2 ?_;obtain⟨d9,f7,i7⟩:=kV (bH (⟨a2,a1,a7,a5,a0,a4,a6,a3⟩:aE)) (uC A hA (⟨a2,a1,a7,a5,a0,a4,a6,a3⟩:aE) zR);refine fC i7 (.inr rfl) ?_;refine rz hA 2 ?_;refine gc (λcf=>?_) (λcf=>?_)
  ·
   have cZ:d9=false:=ck hA cf;refine gx hA 1 ?_;refine rt (gt ?_);refine congrArg PV.bool ?_
   try simp only[aS hA,d3] at *
   subst f7 e5;have hI:lU [] xs=false:=by
    rw[hE,vO d6];simp[qO,aV,c8,cZ]
   subst hA;simp[dY,hI,aj,aV,c8,cZ]
  have eU:d9=true:=cm hA cf;refine gk (gx hA 1 ?_);refine af ?_;refine aF (λσ m=>∃(k:Nat) (n2:Int),σ=(Ze b1 n n2 a8 a2 a1 a7 a5 a0 a4 a6 a3 d9 (A.eB d9))/\(n2=(k:Int)/\k<=i/\acw (aa8 i xs) (jk (⟨a8,⟨a2,a1,a7,a5,a0,a4,a6,a3⟩⟩:ae))=acw (abi k (aa8 i xs)) (jk (⟨a8,⟨a2,a1,a7,a5,a0,a4,a6,a3⟩⟩:ae)))/\m=i - k) _ [] [0,3,4,19,20,21,22,23,24,25] [] _ rfl (by cbv) ⟨0,0,rfl,?_,rfl⟩ (λσ m hI=>?_)
  ·
   exact⟨rfl,aaW _,rfl⟩
  obtain⟨k,n2,rfl,⟨hk,hkl,pW⟩,rfl⟩:=hI;refine gs (gx hA 3 ?_);refine gc (λdF=>?_) (λdF=>?_)
  ·
   have f0:n2 < n:=aP hA dF;refine gk (gs (af (gs ?_)));refine cz [0,1,2,3,4,5,6,7,8,9,10,11,12,13,14,15,16,17,18,19,20,21] (by cbv) ?_;refine bL hA 2 ?_;obtain⟨g3,j0,nO,g7,j1⟩:=ga xs n2 (by omega) (by omega);obtain⟨b8,⟨b2,b0,b7,b6,a9,b4,b5,b3⟩⟩:=nO;have g2:b1[(aaO n2)]? =some [.ii b8,.ii b2,.ii b0,.ii b7,.ii b6,.ii a9,.str b4,.str b5,.str b3]:=by
    exact bC aW d4 g7
   have f6:=g7;rw[hk] at f6;have f6:(xs)[k]? =some (⟨b8,⟨b2,b0,b7,b6,a9,b4,b5,b3⟩⟩:ae):=f6;have f9:(aa8 i xs)[k]? =some (⟨b8,⟨b2,b0,b7,b6,a9,b4,b5,b3⟩⟩:ae):=by rw[List.getElem?_take,if_pos (by omega)];exact f6
   refine ob g3 g2 ?_;refine bL hA 4 ?_;refine ob f2 f4 ?_;refine bL hA 4 ?_;refine bV 43 rfl (λiA=>?_) (λiA=>?_)
   ·
    have f3:b8=a8:=eE hA iA;refine bL hA 2 ?_;refine lD rfl rfl rfl rfl rfl (jO rfl rfl rfl rfl rfl g3 rfl g2) ?_;refine bL hA 3 ?_;refine lD rfl rfl rfl rfl rfl (jO rfl rfl rfl rfl rfl f2 rfl f4) ?_;refine dz hA 3 ?_;refine gc (λgG=>?_) (λgG=>?_)
    ·
     have iu:(A.sd [.ii b8,.ii b2,.ii b0,.ii b7,.ii b6,.ii a9,.str b4,.str b5,.str b3] [.ii a8,.ii a2,.ii a1,.ii a7,.ii a5,.ii a0,.str a4,.str a6,.str a3])=false:=ck hA gG;have j4:([.ii b8,.ii b2,.ii b0,.ii b7,.ii b6,.ii a9,.str b4,.str b5,.str b3]:List PV)≠[.ii a8,.ii a2,.ii a1,.ii a7,.ii a5,.ii a0,.str a4,.str a6,.str a3]:=N7 hA (by rfl) iu;refine gx hA 1 ?_;refine rt (gt ?_);show _=(PV.bool false);have hq:dH (aW (⟨b8,⟨b2,b0,b7,b6,a9,b4,b5,b3⟩⟩:ae)) (aW (⟨a8,⟨a2,a1,a7,a5,a0,a4,a6,a3⟩⟩:ae))=false:=by subst hA;exact iu
     have hcl:jk (⟨a8,⟨a2,a1,a7,a5,a0,a4,a6,a3⟩⟩:ae) (⟨b8,⟨b2,b0,b7,b6,a9,b4,b5,b3⟩⟩:ae)=true:=by
      unfold jk;rw[hq];simp[aV,c8,eU,f0,f3,iu]
     refine congrArg PV.bool ?_
     try simp only[aS hA,d3] at *
     subst f7 e5;have hy:(aa8 i xs).any (jk (⟨a8,⟨a2,a1,a7,a5,a0,a4,a6,a3⟩⟩:ae))=true:=by
      rw[pW,AY f9,hcl];rfl
     have hI:lU [] xs=false:=by
      rw[hE,vO d6];simp[hy]
     subst hA;simp[dY,hI,aj,aV,c8,eU,f0,f3,iu]
    have lY:(A.sd [.ii b8,.ii b2,.ii b0,.ii b7,.ii b6,.ii a9,.str b4,.str b5,.str b3] [.ii a8,.ii a2,.ii a1,.ii a7,.ii a5,.ii a0,.str a4,.str a6,.str a3])=true:=cm hA gG;have j2:([.ii b8,.ii b2,.ii b0,.ii b7,.ii b6,.ii a9,.str b4,.str b5,.str b3]:List PV)=[.ii a8,.ii a2,.ii a1,.ii a7,.ii a5,.ii a0,.str a4,.str a6,.str a3]:=N6 hA (by rfl) lY;refine gk (gy hA 3 ?_);refine⟨_,_,?_,by cbv,k+1,(A.num .add .i64 n2 1),rfl,?_,rfl⟩
    ·
     omega
    have hq:dH (aW (⟨b8,⟨b2,b0,b7,b6,a9,b4,b5,b3⟩⟩:ae)) (aW (⟨a8,⟨a2,a1,a7,a5,a0,a4,a6,a3⟩⟩:ae))=true:=by subst hA;exact lY
    have hcl:jk (⟨a8,⟨a2,a1,a7,a5,a0,a4,a6,a3⟩⟩:ae) (⟨b8,⟨b2,b0,b7,b6,a9,b4,b5,b3⟩⟩:ae)=false:=by
     unfold jk;rw[hq];simp[aV,c8,eU,f0,f3,lY]
    refine⟨by rw[au hA (by omega) (by omega)];omega,by omega,?_⟩;rw[pW,AY f9,hcl];rfl
   have f3:b8≠a8:=eF hA iA;refine dz hA 10 ?_;refine gc (λjw=>?_) (λjw=>?_)
   ·
    exact ay jw (by rfl)
   refine gk (gy hA 3 ?_);refine⟨_,_,?_,by cbv,k+1,(A.num .add .i64 n2 1),rfl,?_,rfl⟩
   ·
    omega
   have hcl:jk (⟨a8,⟨a2,a1,a7,a5,a0,a4,a6,a3⟩⟩:ae) (⟨b8,⟨b2,b0,b7,b6,a9,b4,b5,b3⟩⟩:ae)=false:=by
    unfold jk;simp[aV,c8,eU,f0,f3,f3.symm]
   refine⟨by rw[au hA (by omega) (by omega)];omega,by omega,?_⟩;rw[pW,AY f9,hcl];rfl
  have f0:n<=n2:=aQ hA dF;refine aI (gE ?_);refine gy hA 3 ?_;refine⟨_,_,?_,by cbv,i+1,(A.num .add .i64 n 1),rfl,?_,rfl⟩
  ·
   omega
  have hy:(aa8 i xs).any (jk (⟨a8,⟨a2,a1,a7,a5,a0,a4,a6,a3⟩⟩:ae))=false:=by rw[pW,abk (by rw[aa1];omega)];rfl
  try simp only[aS hA,d3] at *
  subst f7 e5;refine⟨by rw[au hA (by omega) (by omega)];omega,by omega,?_⟩;rw[hE,vO d6];simp[qO,hy,aV,c8,eU,f0,abd.2 f0]
 have aV:(A.ao b1)<=n:=aQ hA c1;refine aI (gE ?_);refine gx hA 4 ?_;refine rt (gt ?_);show _=(PV.bool (A.cmp .leq (A.ao b1) 200));refine congrArg PV.bool ?_
 try simp only[aS hA,d3] at *
 have hI:lU [] xs=true:=by rw[hE,QM (by omega)]
 subst hA;simp[dY,hI,aj,aV,abd.2 aV]
def DA (p0 p1 p2:Int)(p3:Bool)(p4:RR)(p5 p6 p7:Int)(p8:ByteArray)(p9 fj fc ku ou qP:Int)(so Bd Ll:ByteArray):St:={sl:=.aa::.fn 247 [.rd [.ii p0],.rd [.ii p1],.rd [.ii p2]]::.fn 199 []::dV++.pt 6 0 0::.aa::.pt 8 0 0::.bool p3::dV++.sl 9 p4::.ii p5::.ii p6::nE,bl:=[(6,⟨.var,9,[[.ii p7,.ii p7,.ii p7,.ii p7,.ii p7,.ii p7,.str p8,.str p8,.str p8]]⟩),(8,⟨.var,9,[[.ii p9,.ii fj,.ii fc,.ii ku,.ii ou,.ii qP,.str so,.str Bd,.str Ll]]⟩)]}
theorem Jg (A:ax)(hA:A=aj)(xs:List ae)(k v u:Int)(hx:(aaK xs:Int)<=4611686018427387904):al 196 [.sl 9 (aaN aW xs),.fn 247 [.rd [.ii k],.rd [.ii v],.rd [.ii u]],.fn 199 []] (.aw [.agg (aW (ab9 (gm (dq k v u) dT xs) jb)),.bool (abB (gm (dq k v u) dT xs))]):=by
 obtain⟨a8,b3,b8⟩:=nr hA aW xs;refine ak (az:=[.sl 9 a8,.fn 247 [.rd [.ii k],.rd [.ii v],.rd [.ii u]],.fn 199 []]) (by subst b3;rfl) ?_;refine aY Tryz.func196 ?_;refine gx hA 2 ?_;refine gx hA 4 ?_;refine gs (gx hA 3 ?_);refine af ?_;refine aF (λσ m=>∃(i:Nat) (n:Int) (fd:Bool) (q0 q1 q2 q3 q4 q5:Int) (q6 q7 q8:ByteArray),σ=(DA k v u fd a8 (A.ao a8) n 0 aaM q0 q1 q2 q3 q4 q5 q6 q7 q8)/\(n=(i:Int)/\i<=aaK xs/\fd=abB (gm (dq k v u) dT (xs.take i))/\(⟨q0,⟨q1,q2,q3,q4,q5,q6,q7,q8⟩⟩:ae)=ab9 (gm (dq k v u) dT (xs.take i)) jb)/\m=aaK xs - i) _ [.up 8,.up 6] [1,2,6,8,9,13,14,15] [6,8] _ rfl (by cbv) ⟨0,0,false,0,0,0,0,0,0,aaM,aaM,aaM,rfl,?_,rfl⟩ (λσ m hI=>?_)
 ·
  exact⟨rfl,aaW _,rfl,rfl⟩
 obtain⟨i,n,fd,q0,q1,q2,q3,q4,q5,q6,q7,q8,rfl,⟨hn,hi,hF,hQ⟩,rfl⟩:=hI;refine gx hA 1 ?_;refine gs ?_;refine gc (λc1=>?_) (λc1=>?_)
 ·
  have aV:n < (A.ao a8):=aP hA c1;refine gk (gs (af (gs (gr ?_))));obtain⟨b4,c0,x2,cX,c2⟩:=ga xs n (by omega) (by omega);obtain⟨a9,⟨a2,a1,a7,a4,a0,a5,a6,a3⟩⟩:=x2;have b5:a8[(aaO n)]? =some [.ii a9,.ii a2,.ii a1,.ii a7,.ii a4,.ii a0,.str a5,.str a6,.str a3]:=by
   exact bC aW b3 cX
  have b0:=cX;rw[hn] at b0;have b0:(xs)[i]? =some (⟨a9,⟨a2,a1,a7,a4,a0,a5,a6,a3⟩⟩:ae):=b0;refine ee b4 b5 ?_;refine rz hA 3 ?_;refine gs (gr (rn hA 3 ?_));obtain⟨b9,b1,cL⟩:=kV (dq k v u (⟨a2,a1,a7,a4,a0,a5,a6,a3⟩:aE)) (Li A hA (⟨a2,a1,a7,a4,a0,a5,a6,a3⟩:aE) k v u);refine aH cL (.inr rfl) ?_;refine rn hA 1 ?_;refine ag 23 rfl (λc5=>?_) (λc5=>?_)
  ·
   refine rn hA 3 ?_;refine ag 26 rfl (λc6=>?_) (λc6=>?_)
   ·
    have c7:fd=false:=ck hA c6;refine rz hA 6 ?_;refine gc (λc8=>?_) (λc8=>?_)
    ·
     refine gy hA 3 ?_;refine gy hA 2 ?_;refine⟨_,_,?_,by cbv,i+1,(A.num .add .i64 n 1),true,a9,a2,a1,a7,a4,a0,a5,a6,a3,rfl,?_,rfl⟩
     ·
      omega
     refine⟨by rw[au hA (by omega) (by omega)];omega,by omega,?_⟩;rw[gn b0];rw[xz (by rw[<- b1];assumption) (by rw[<- hF];exact Eq.symm (by assumption))];exact⟨rfl,rfl⟩
    exact cu c8 (by rfl)
   have c9:fd=true:=cm hA c6;refine rn hA 3 ?_;obtain⟨b7,b2,b6⟩:=kV (dT (⟨q0,⟨q1,q2,q3,q4,q5,q6,q7,q8⟩⟩:ae) (⟨a9,⟨a2,a1,a7,a4,a0,a5,a6,a3⟩⟩:ae)) (Bc A hA (⟨q0,⟨q1,q2,q3,q4,q5,q6,q7,q8⟩⟩:ae) (⟨a9,⟨a2,a1,a7,a4,a0,a5,a6,a3⟩⟩:ae));refine fC b6 (.inr rfl) ?_;refine rz hA 2 ?_;refine gc (λcZ=>?_) (λcZ=>?_)
   ·
    refine gy hA 3 ?_;refine gy hA 2 ?_;refine⟨_,_,?_,by cbv,i+1,(A.num .add .i64 n 1),true,a9,a2,a1,a7,a4,a0,a5,a6,a3,rfl,?_,rfl⟩
    ·
     omega
    refine⟨by rw[au hA (by omega) (by omega)];omega,by omega,?_⟩;rw[gn b0];rw[xA (by rw[<- b1];assumption) (by rw[<- hF];exact Eq.symm (by assumption)) hQ (by rw[<- b2];assumption)];exact⟨rfl,rfl⟩
   refine gk (gy hA 2 ?_);refine⟨_,_,?_,by cbv,i+1,(A.num .add .i64 n 1),fd,q0,q1,q2,q3,q4,q5,q6,q7,q8,rfl,?_,rfl⟩
   ·
    omega
   refine⟨by rw[au hA (by omega) (by omega)];omega,by omega,?_⟩;rw[gn b0];rw[xB (by rw[<- hF];exact Eq.symm (by assumption)) hQ (by rw[<- b2];assumption)];exact⟨hF,hQ⟩
  refine rz hA 9 ?_;refine gc (λeU=>?_) (λeU=>?_)
  ·
   exact ay eU (by rfl)
  refine gk (gy hA 2 ?_);refine⟨_,_,?_,by cbv,i+1,(A.num .add .i64 n 1),fd,q0,q1,q2,q3,q4,q5,q6,q7,q8,rfl,?_,rfl⟩
  ·
   omega
  refine⟨by rw[au hA (by omega) (by omega)];omega,by omega,?_⟩;rw[gn b0];rw[sn (by rw[<- b1];assumption)];exact⟨hF,hQ⟩
 have aV:(A.ao a8)<=n:=aQ hA c1;refine aI (gE ?_);refine gx hA 4 ?_;refine rt (gt ?_);show _=PV.aw [.agg [.ii q0,.ii q1,.ii q2,.ii q3,.ii q4,.ii q5,.str q6,.str q7,.str q8],.bool fd];rw[aaU (by omega)] at hF hQ;rw[<- hF,<- hQ];rfl
def DB (p0:Int)(p1:Bool)(p2:RR)(p3 p4 p5:Int)(p6:ByteArray)(p7 p8 p9 fj fc ku:Int)(ou qP so:ByteArray):St:={sl:=.aa::.fn 197 [.rd [.ii p0]]::.fn 199 []::dV++.pt 6 0 0::.aa::.pt 8 0 0::.bool p1::dV++.sl 9 p2::.ii p3::.ii p4::nE,bl:=[(6,⟨.var,9,[[.ii p5,.ii p5,.ii p5,.ii p5,.ii p5,.ii p5,.str p6,.str p6,.str p6]]⟩),(8,⟨.var,9,[[.ii p7,.ii p8,.ii p9,.ii fj,.ii fc,.ii ku,.str ou,.str qP,.str so]]⟩)]}
theorem Jh (A:ax)(hA:A=aj)(xs:List ae)(v:Int)(hx:(aaK xs:Int)<=4611686018427387904):al 196 [.sl 9 (aaN aW xs),.fn 197 [.rd [.ii v]],.fn 199 []] (.aw [.agg (aW (ab9 (gm (bD 2 v) dT xs) jb)),.bool (abB (gm (bD 2 v) dT xs))]):=by
 obtain⟨a8,b3,b8⟩:=nr hA aW xs;refine ak (az:=[.sl 9 a8,.fn 197 [.rd [.ii v]],.fn 199 []]) (by subst b3;rfl) ?_;refine aY Tryz.func196 ?_;refine gx hA 2 ?_;refine gx hA 4 ?_;refine gs (gx hA 3 ?_);refine af ?_;refine aF (λσ m=>∃(i:Nat) (n:Int) (fd:Bool) (q0 q1 q2 q3 q4 q5:Int) (q6 q7 q8:ByteArray),σ=(DB v fd a8 (A.ao a8) n 0 aaM q0 q1 q2 q3 q4 q5 q6 q7 q8)/\(n=(i:Int)/\i<=aaK xs/\fd=abB (gm (bD 2 v) dT (xs.take i))/\(⟨q0,⟨q1,q2,q3,q4,q5,q6,q7,q8⟩⟩:ae)=ab9 (gm (bD 2 v) dT (xs.take i)) jb)/\m=aaK xs - i) _ [.up 8,.up 6] [1,2,6,8,9,13,14,15] [6,8] _ rfl (by cbv) ⟨0,0,false,0,0,0,0,0,0,aaM,aaM,aaM,rfl,?_,rfl⟩ (λσ m hI=>?_)
 ·
  exact⟨rfl,aaW _,rfl,rfl⟩
 obtain⟨i,n,fd,q0,q1,q2,q3,q4,q5,q6,q7,q8,rfl,⟨hn,hi,hF,hQ⟩,rfl⟩:=hI;refine gx hA 1 ?_;refine gs ?_;refine gc (λc1=>?_) (λc1=>?_)
 ·
  have aV:n < (A.ao a8):=aP hA c1;refine gk (gs (af (gs (gr ?_))));obtain⟨b4,c0,x2,cX,c2⟩:=ga xs n (by omega) (by omega);obtain⟨a9,⟨a2,a1,a7,a4,a0,a5,a6,a3⟩⟩:=x2;have b5:a8[(aaO n)]? =some [.ii a9,.ii a2,.ii a1,.ii a7,.ii a4,.ii a0,.str a5,.str a6,.str a3]:=by
   exact bC aW b3 cX
  have b0:=cX;rw[hn] at b0;have b0:(xs)[i]? =some (⟨a9,⟨a2,a1,a7,a4,a0,a5,a6,a3⟩⟩:ae):=b0;refine ee b4 b5 ?_;refine rz hA 3 ?_;refine gs (gr (rn hA 3 ?_));obtain⟨b9,b1,cL⟩:=kV (bD 2 v (⟨a2,a1,a7,a4,a0,a5,a6,a3⟩:aE)) (Lj A hA (⟨a2,a1,a7,a4,a0,a5,a6,a3⟩:aE) v);refine aH cL (.inr rfl) ?_;refine rn hA 1 ?_;refine ag 23 rfl (λc5=>?_) (λc5=>?_)
  ·
   refine rn hA 3 ?_;refine ag 26 rfl (λc6=>?_) (λc6=>?_)
   ·
    have c7:fd=false:=ck hA c6;refine rz hA 6 ?_;refine gc (λc8=>?_) (λc8=>?_)
    ·
     refine gy hA 3 ?_;refine gy hA 2 ?_;refine⟨_,_,?_,by cbv,i+1,(A.num .add .i64 n 1),true,a9,a2,a1,a7,a4,a0,a5,a6,a3,rfl,?_,rfl⟩
     ·
      omega
     refine⟨by rw[au hA (by omega) (by omega)];omega,by omega,?_⟩;rw[gn b0];rw[xz (by rw[<- b1];assumption) (by rw[<- hF];exact Eq.symm (by assumption))];exact⟨rfl,rfl⟩
    exact cu c8 (by rfl)
   have c9:fd=true:=cm hA c6;refine rn hA 3 ?_;obtain⟨b7,b2,b6⟩:=kV (dT (⟨q0,⟨q1,q2,q3,q4,q5,q6,q7,q8⟩⟩:ae) (⟨a9,⟨a2,a1,a7,a4,a0,a5,a6,a3⟩⟩:ae)) (Bc A hA (⟨q0,⟨q1,q2,q3,q4,q5,q6,q7,q8⟩⟩:ae) (⟨a9,⟨a2,a1,a7,a4,a0,a5,a6,a3⟩⟩:ae));refine fC b6 (.inr rfl) ?_;refine rz hA 2 ?_;refine gc (λcZ=>?_) (λcZ=>?_)
   ·
    refine gy hA 3 ?_;refine gy hA 2 ?_;refine⟨_,_,?_,by cbv,i+1,(A.num .add .i64 n 1),true,a9,a2,a1,a7,a4,a0,a5,a6,a3,rfl,?_,rfl⟩
    ·
     omega
    refine⟨by rw[au hA (by omega) (by omega)];omega,by omega,?_⟩;rw[gn b0];rw[xA (by rw[<- b1];assumption) (by rw[<- hF];exact Eq.symm (by assumption)) hQ (by rw[<- b2];assumption)];exact⟨rfl,rfl⟩
   refine gk (gy hA 2 ?_);refine⟨_,_,?_,by cbv,i+1,(A.num .add .i64 n 1),fd,q0,q1,q2,q3,q4,q5,q6,q7,q8,rfl,?_,rfl⟩
   ·
    omega
   refine⟨by rw[au hA (by omega) (by omega)];omega,by omega,?_⟩;rw[gn b0];rw[xB (by rw[<- hF];exact Eq.symm (by assumption)) hQ (by rw[<- b2];assumption)];exact⟨hF,hQ⟩
  refine rz hA 9 ?_;refine gc (λeU=>?_) (λeU=>?_)
  ·
   exact ay eU (by rfl)
  refine gk (gy hA 2 ?_);refine⟨_,_,?_,by cbv,i+1,(A.num .add .i64 n 1),fd,q0,q1,q2,q3,q4,q5,q6,q7,q8,rfl,?_,rfl⟩
  ·
   omega
  refine⟨by rw[au hA (by omega) (by omega)];omega,by omega,?_⟩;rw[gn b0];rw[sn (by rw[<- b1];assumption)];exact⟨hF,hQ⟩
 have aV:(A.ao a8)<=n:=aQ hA c1;refine aI (gE ?_);refine gx hA 4 ?_;refine rt (gt ?_);show _=PV.aw [.agg [.ii q0,.ii q1,.ii q2,.ii q3,.ii q4,.ii q5,.str q6,.str q7,.str q8],.bool fd];rw[aaU (by omega)] at hF hQ;rw[<- hF,<- hQ];rfl
def E6 (p0:Int)(p1:Bool)(p2:RR)(p3 p4 p5:Int)(p6:ByteArray)(p7 p8 p9 fj fc ku:Int)(ou qP so:ByteArray):St:={sl:=.aa::.fn 200 [.rd [.ii p0]]::.fn 201 []::dV++.pt 6 0 0::.aa::.pt 8 0 0::.bool p1::dV++.sl 9 p2::.ii p3::.ii p4::nE,bl:=[(6,⟨.var,9,[[.ii p5,.ii p5,.ii p5,.ii p5,.ii p5,.ii p5,.str p6,.str p6,.str p6]]⟩),(8,⟨.var,9,[[.ii p7,.ii p8,.ii p9,.ii fj,.ii fc,.ii ku,.str ou,.str qP,.str so]]⟩)]}
theorem Lm (A:ax)(hA:A=aj)(xs:List ae)(v:Int)(hx:(aaK xs:Int)<=4611686018427387904):al 196 [.sl 9 (aaN aW xs),.fn 200 [.rd [.ii v]],.fn 201 []] (.aw [.agg (aW (ab9 (gm (bD 1 v) eP xs) jb)),.bool (abB (gm (bD 1 v) eP xs))]):=by
 obtain⟨a8,b3,b8⟩:=nr hA aW xs;refine ak (az:=[.sl 9 a8,.fn 200 [.rd [.ii v]],.fn 201 []]) (by subst b3;rfl) ?_;refine aY Tryz.func196 ?_;refine gx hA 2 ?_;refine gx hA 4 ?_;refine gs (gx hA 3 ?_);refine af ?_;refine aF (λσ m=>∃(i:Nat) (n:Int) (fd:Bool) (q0 q1 q2 q3 q4 q5:Int) (q6 q7 q8:ByteArray),σ=(E6 v fd a8 (A.ao a8) n 0 aaM q0 q1 q2 q3 q4 q5 q6 q7 q8)/\(n=(i:Int)/\i<=aaK xs/\fd=abB (gm (bD 1 v) eP (xs.take i))/\(⟨q0,⟨q1,q2,q3,q4,q5,q6,q7,q8⟩⟩:ae)=ab9 (gm (bD 1 v) eP (xs.take i)) jb)/\m=aaK xs - i) _ [.up 8,.up 6] [1,2,6,8,9,13,14,15] [6,8] _ rfl (by cbv) ⟨0,0,false,0,0,0,0,0,0,aaM,aaM,aaM,rfl,?_,rfl⟩ (λσ m hI=>?_)
 ·
  exact⟨rfl,aaW _,rfl,rfl⟩
 obtain⟨i,n,fd,q0,q1,q2,q3,q4,q5,q6,q7,q8,rfl,⟨hn,hi,hF,hQ⟩,rfl⟩:=hI;refine gx hA 1 ?_;refine gs ?_;refine gc (λc1=>?_) (λc1=>?_)
 ·
  have aV:n < (A.ao a8):=aP hA c1;refine gk (gs (af (gs (gr ?_))));obtain⟨b4,c0,x2,cX,c2⟩:=ga xs n (by omega) (by omega);obtain⟨a9,⟨a2,a1,a7,a4,a0,a5,a6,a3⟩⟩:=x2;have b5:a8[(aaO n)]? =some [.ii a9,.ii a2,.ii a1,.ii a7,.ii a4,.ii a0,.str a5,.str a6,.str a3]:=by
   exact bC aW b3 cX
  have b0:=cX;rw[hn] at b0;have b0:(xs)[i]? =some (⟨a9,⟨a2,a1,a7,a4,a0,a5,a6,a3⟩⟩:ae):=b0;refine ee b4 b5 ?_;refine rz hA 3 ?_;refine gs (gr (rn hA 3 ?_));obtain⟨b9,b1,cL⟩:=kV (bD 1 v (⟨a2,a1,a7,a4,a0,a5,a6,a3⟩:aE)) (Lk A hA (⟨a2,a1,a7,a4,a0,a5,a6,a3⟩:aE) v);refine aH cL (.inr rfl) ?_;refine rn hA 1 ?_;refine ag 23 rfl (λc5=>?_) (λc5=>?_)
  ·
   refine rn hA 3 ?_;refine ag 26 rfl (λc6=>?_) (λc6=>?_)
   ·
    have c7:fd=false:=ck hA c6;refine rz hA 6 ?_;refine gc (λc8=>?_) (λc8=>?_)
    ·
     refine gy hA 3 ?_;refine gy hA 2 ?_;refine⟨_,_,?_,by cbv,i+1,(A.num .add .i64 n 1),true,a9,a2,a1,a7,a4,a0,a5,a6,a3,rfl,?_,rfl⟩
     ·
      omega
     refine⟨by rw[au hA (by omega) (by omega)];omega,by omega,?_⟩;rw[gn b0];rw[xz (by rw[<- b1];assumption) (by rw[<- hF];exact Eq.symm (by assumption))];exact⟨rfl,rfl⟩
    exact cu c8 (by rfl)
   have c9:fd=true:=cm hA c6;refine rn hA 3 ?_;obtain⟨b7,b2,b6⟩:=kV (eP (⟨q0,⟨q1,q2,q3,q4,q5,q6,q7,q8⟩⟩:ae) (⟨a9,⟨a2,a1,a7,a4,a0,a5,a6,a3⟩⟩:ae)) (Jf A hA (⟨q0,⟨q1,q2,q3,q4,q5,q6,q7,q8⟩⟩:ae) (⟨a9,⟨a2,a1,a7,a4,a0,a5,a6,a3⟩⟩:ae));refine fC b6 (.inr rfl) ?_;refine rz hA 2 ?_;refine gc (λcZ=>?_) (λcZ=>?_)
   ·
    refine gy hA 3 ?_;refine gy hA 2 ?_;refine⟨_,_,?_,by cbv,i+1,(A.num .add .i64 n 1),true,a9,a2,a1,a7,a4,a0,a5,a6,a3,rfl,?_,rfl⟩
    ·
     omega
    refine⟨by rw[au hA (by omega) (by omega)];omega,by omega,?_⟩;rw[gn b0];rw[xA (by rw[<- b1];assumption) (by rw[<- hF];exact Eq.symm (by assumption)) hQ (by rw[<- b2];assumption)];exact⟨rfl,rfl⟩
   refine gk (gy hA 2 ?_);refine⟨_,_,?_,by cbv,i+1,(A.num .add .i64 n 1),fd,q0,q1,q2,q3,q4,q5,q6,q7,q8,rfl,?_,rfl⟩
   ·
    omega
   refine⟨by rw[au hA (by omega) (by omega)];omega,by omega,?_⟩;rw[gn b0];rw[xB (by rw[<- hF];exact Eq.symm (by assumption)) hQ (by rw[<- b2];assumption)];exact⟨hF,hQ⟩
  refine rz hA 9 ?_;refine gc (λeU=>?_) (λeU=>?_)
  ·
   exact ay eU (by rfl)
  refine gk (gy hA 2 ?_);refine⟨_,_,?_,by cbv,i+1,(A.num .add .i64 n 1),fd,q0,q1,q2,q3,q4,q5,q6,q7,q8,rfl,?_,rfl⟩
  ·
   omega
  refine⟨by rw[au hA (by omega) (by omega)];omega,by omega,?_⟩;rw[gn b0];rw[sn (by rw[<- b1];assumption)];exact⟨hF,hQ⟩
 have aV:(A.ao a8)<=n:=aQ hA c1;refine aI (gE ?_);refine gx hA 4 ?_;refine rt (gt ?_);show _=PV.aw [.agg [.ii q0,.ii q1,.ii q2,.ii q3,.ii q4,.ii q5,.str q6,.str q7,.str q8],.bool fd];rw[aaU (by omega)] at hF hQ;rw[<- hF,<- hQ];rfl
theorem qQ (A:ax)(hA:A=aj)(xs:List ae)(k v u:Int)(hx:(aaK xs:Int)<=4611686018427387904):al 204 [.sl 9 (aaN aW xs),.ii k,.ii v,.ii u] (.aw [.agg (aW (ab9 (gm (dq k v u) dT xs) jb)),.bool (abB (gm (dq k v u) dT xs))]):=by
 obtain⟨j7,a8,n0⟩:=nr hA aW xs;refine ak (az:=[.sl 9 j7,.ii k,.ii v,.ii u]) (by subst a8;rfl) ?_;refine aY Tryz.func204 ?_;refine gx hA 5 ?_;refine gs (gr (rn hA 2 ?_));obtain⟨k0,i7,f7,j5,j1,g1,g8,g7,i2,n3,j6,g0,e2,i0,f5,d6,g4,f9,g3,m2,aJ⟩:=xC (Jg A hA xs k v u (by assumption));refine aH aJ (.inl (by simp only[fresh,cj,and_self])) ?_ (hv:=by subst a8;rfl);refine rz hA 4 ?_;refine rt (gt ?_);show _=PV.aw [.agg [.ii k0,.ii i7,.ii f7,.ii j5,.ii j1,.ii g1,.str g8,.str g7,.str i2],.bool n3];simp only[j6,g0,e2,i0,f5,d6,g4,f9,g3,m2];rfl
theorem vK (A:ax)(hA:A=aj)(xs:List ae)(v:Int)(hx:(aaK xs:Int)<=4611686018427387904):al 122 [.sl 9 (aaN aW xs),.ii v] (.aw [.agg (aW (ab9 (kF v xs) jb)),.bool (abB (kF v xs))]):=by
 obtain⟨j7,a8,n0⟩:=nr hA aW xs;refine ak (az:=[.sl 9 j7,.ii v]) (by subst a8;rfl) ?_;refine aY Tryz.func122 ?_;refine gx hA 3 ?_;refine gs (gs (gr (rn hA 2 ?_)));obtain⟨n7,l3,k4,n1,m7,k6,l8,l5,l9,n9,d9,c0,b0,d1,c7,b2,b5,c1,c6,d3,aJ⟩:=xC (Jh A hA xs v (by assumption));refine aH aJ (.inl (by simp only[fresh,cj,and_self])) ?_ (hv:=by subst a8;rfl);refine rz hA 6 ?_;refine gx hA 1 ?_;refine gc (λc3=>?_) (λc3=>?_)
 ·
  refine gx hA 3 ?_;refine rt (gt ?_);show _=PV.aw [.agg [.ii 0,.ii 0,.ii 0,.ii 0,.ii 0,.ii 0,.str aaM,.str aaM,.str aaM],.bool false];have d5:(abB (gm (bD 2 v) dT xs))=true:=by rw[<- d3];assumption
  rw[kF,if_pos (d5)]
  try simp only[d9,c0,b0,d1,c7,b2,b5,c1,c6,d3]
  rfl
 refine gk (gs (gr (rn hA 2 ?_)));obtain⟨k1,i8,f3,j3,i4,f0,j0,g5,i5,n4,j8,g2,e3,g9,f4,d4,f2,e9,e5,l2,eu⟩:=xC (Lm A hA xs v (by assumption));refine aH eu (.inl (by simp only[fresh,cj,and_self])) ?_ (hv:=by subst a8;rfl);refine rz hA 4 ?_;refine rt (gt ?_);show _=PV.aw [.agg [.ii k1,.ii i8,.ii f3,.ii j3,.ii i4,.ii f0,.str j0,.str g5,.str i5],.bool n4];have d5:(abB (gm (bD 2 v) dT xs))=false:=by rw[<- d3];assumption
 rw[kF,if_neg (by rw[d5];decide)]
 try simp only[d9,c0,b0,d1,c7,b2,b5,c1,c6,d3,j8,g2,e3,g9,f4,d4,f2,e9,e5,l2]
 rfl
theorem DC (A:ax)(hA:A=aj)(xs:List ae)(v u:Int)(hx:(aaK xs:Int)<=4611686018427387904):al 203 [.sl 9 (aaN aW xs),.ii v,.ii u] (.aw [.agg (aW (ab9 (ni v u xs) jb)),.bool (abB (ni v u xs))]):=by
 obtain⟨j7,a8,n0⟩:=nr hA aW xs;refine ak (az:=[.sl 9 j7,.ii v,.ii u]) (by subst a8;rfl) ?_;refine aY Tryz.func203 ?_;refine gx hA 2 ?_;refine gs (gs (gr (rn hA 2 ?_)));obtain⟨n5,l0,k8,m8,m3,k7,m1,l7,l6,k3,d0,a3,a0,a7,a5,a1,a2,a4,a6,a9,aJ⟩:=xC (vK A hA xs v (by assumption));refine aH aJ (.inr rfl) ?_ (hv:=by subst a8;rfl);refine rz hA 6 ?_;refine gx hA 2 ?_;refine gc (λc3=>?_) (λc3=>?_)
 ·
  have c4:k3=false:=ck hA c3;refine gx hA 3 ?_;refine rt (gt ?_);show _=PV.aw [.agg [.ii 0,.ii 0,.ii 0,.ii 0,.ii 0,.ii 0,.str aaM,.str aaM,.str aaM],.bool false];have b1:(abB (kF v xs))=false:=by rw[<- a9];assumption
  rw[ni,if_neg (by rw[b1];decide)]
  try simp only[d0,a3,a0,a7,a5,a1,a2,a4,a6,a9]
  rfl
 have c5:k3=true:=cm hA c3;refine gk (gs (gs (gr (rn hA 3 ?_))));obtain⟨n6,m6,k9,m9,l1,k5,m5,m0,l4,o0,d8,b6,b3,c9,b8,b4,c2,b9,b7,d2,fq⟩:=xC (qQ A hA xs 5 v u (by assumption));refine aH fq (.inr rfl) ?_ (hv:=by subst a8;rfl);refine rz hA 6 ?_;refine gx hA 1 ?_;refine gc (λc8=>?_) (λc8=>?_)
 ·
  refine gx hA 3 ?_;refine rt (gt ?_);show _=PV.aw [.agg [.ii 0,.ii 0,.ii 0,.ii 0,.ii 0,.ii 0,.str aaM,.str aaM,.str aaM],.bool false];have b1:(abB (kF v xs))=true:=by rw[<- a9];assumption
  have d7:(abB (gm (dq 5 v u) dT xs))=true:=by rw[<- d2];assumption
  rw[ni,if_pos (b1),if_pos (d7)]
  try simp only[d0,a3,a0,a7,a5,a1,a2,a4,a6,a9,d8,b6,b3,c9,b8,b4,c2,b9,b7,d2]
  rfl
 refine gk (gs (gr (rn hA 3 ?_)));obtain⟨k2,i6,e7,j4,j2,e8,g6,i1,i3,n2,j9,f8,e0,i9,e6,e1,f6,f1,e4,m4,n8⟩:=xC (qQ A hA xs 3 v u (by assumption));refine aH n8 (.inr rfl) ?_ (hv:=by subst a8;rfl);refine rz hA 4 ?_;refine rt (gt ?_);show _=PV.aw [.agg [.ii k2,.ii i6,.ii e7,.ii j4,.ii j2,.ii e8,.str g6,.str i1,.str i3],.bool n2];have b1:(abB (kF v xs))=true:=by rw[<- a9];assumption
 have d7:(abB (gm (dq 5 v u) dT xs))=false:=by rw[<- d2];assumption
 rw[ni,if_pos (b1),if_neg (by rw[d7];decide)]
 try simp only[d0,a3,a0,a7,a5,a1,a2,a4,a6,a9,d8,b6,b3,c9,b8,b4,c2,b9,b7,d2,j9,f8,e0,i9,e6,e1,f6,f1,e4,m4]
 rfl
end Go.Av

/- Lemmas and walks for FnExactServerNew: what each function of the program and of the reference comes to. -/
import Derived.Test.YtghokbigemmaaaaGreatQ8
import Derived.Test.YtghokbigemmaaaaGreatRp
open List renaming length→aaK,map→aaN,length_map→aaS,take_of_length_le→aaU,length_take→aa1,length_cons→aa5,take_add_one→aa6,take→aa8,drop→abi,length_drop→abo,any→acw
open ByteArray renaming size→aaL,empty→aaM,mk→aaP
open Int renaming toNat→aaO,toNat_natCast→abb,le_refl→acp
open Nat renaming zero_le→aaW
namespace Go.Av
open Go Go.Proofs
set_option maxRecDepth 100000
set_option maxHeartbeats 4000000
set_option linter.unusedVariables false
set_option linter.unusedSimpArgs false
theorem y0 (A:ax)(hA:A=aj)(t:ByteArray)(at_ n:Int)(hn:bc t at_=n)(h0:0<=at_)(h1:at_ < (t.size:Int))(h2:n < 128)(hz:t.size<=1048576):rY 308 [.str t,.ii at_,.bool false] [] [.str t,.ii (at_+1),.bool false] (.ii n):=by
 refine EI nQ Tryz.func308 (by kernel_rfl) (uk rfl (by cbv) (by cbv) (λhv=>?_));refine gx hA 1 ?_;refine gs ?_;refine cz [0,1,2,3,4,5,6,7,8,9,10,12,14,11,13,15] (by cbv) ?_;refine bL hA 8 ?_;obtain⟨a1,a0,aJ⟩:=yY (sy A hA t at_ n hn h0 h1 h2 hz);refine eQ aJ (.inr rfl) ?_;refine dz hA 7 ?_;refine gs (gx hA 8 ?_);refine gc (λc3=>?_) (λc3=>?_)
 ·
  exact ay c3 (by subst hA;rfl)
 refine gk (gx hA 5 ?_);refine gx hA 2 ?_;refine kT (xh rfl rfl (by cbv) rfl (by cbv) ?_ ?_)
 ·
  rw[a0]
 rfl
theorem y1 (A:ax)(hA:A=aj)(t:ByteArray)(at_:Int)(u:ByteArray)(hn:bc t at_=(u.size:Int))(hu:t.extract (aaO (at_+1)) (aaO (at_+1+(u.size:Int)))=u)(h0:0<=at_)(h1:at_+1+(u.size:Int)<=(t.size:Int))(h2:u.size < 128)(hz:t.size<=1048576):rY 309 [.str t,.ii at_,.bool false] [] [.str t,.ii (at_+1+(aaL u:Int)),.bool false] (.str u):=by
 refine EI nQ Tryz.func309 (by kernel_rfl) (uk rfl (by cbv) (by cbv) (λhv=>?_));refine gx hA 1 ?_;refine gs ?_;refine cz [0,1,2,3,4,5,6,7,8,9,10,12,14,11,13,15] (by cbv) ?_;refine bL hA 8 ?_;obtain⟨a1,a0,aJ⟩:=Ha (IS A hA t at_ u hn hu h0 h1 h2 hz);refine eQ aJ (.inr rfl) ?_;refine dz hA 7 ?_;refine gs (gx hA 8 ?_);refine gc (λc3=>?_) (λc3=>?_)
 ·
  exact ay c3 (by subst hA;rfl)
 refine gk (gx hA 5 ?_);refine gx hA 2 ?_;refine kT (xh rfl rfl (by cbv) rfl (by cbv) ?_ ?_)
 ·
  rw[a0]
 rfl
theorem Pa (A:ax)(hA:A=aj)(r:aE)(h:bH r=true)(hz:∀ q∈eH r,q<=1048576):al 191 [.agg (gY r)] (.bool true):=by
 have hr:=qK A hA r (λq hq=>by have:=hz q hq;omega)
 rwa [h] at hr
theorem Pb (A:ax)(hA:A=aj)(r:aE)(t:ByteArray)(h:bH r=true)(ht:pI A (dp A) r=t)(hz:∀ q∈eH r,q<=1048576):al 156 [.agg (gY r)] (.aw [.str t,.bool true]):=by
 have hr:=xN A hA r hz;rw[h,dB,if_pos h,ht] at hr;exact hr
theorem LS {r:aE}(h:lJ r):∀ q∈eH r,q<=1048576:=by
 obtain⟨_,_,_,_,_,h5,h6,h7⟩:=h;intro q hq;simp[eH] at hq;omega
theorem Hb (A:ax)(hA:A=aj)(t:ByteArray)(r:aE)(hr:lJ r)(ht:pI A (dp A) r=t)(hz:t.size<=1048576):al 274 [.str t] (.aw [.agg (gY r),.bool true]):=by
 have zt:=aS hA t;have hq:=Rg hA (nC hA) hr ht;obtain⟨hok,g1,g2,g3,g4,g5,g6,g7⟩:=id hr;have hk:=y3 hok;have hg:=rH hok;obtain⟨a7,a4,a6,a5,a3,a0,a1,a2⟩:=r;have g1:a4 < 128:=g1;have g2:a6 < 128:=g2;have g3:a5 < 128:=g3;have g4:a3 < 128:=g4;have g5:a0.size < 128:=g5;have g6:a1.size < 128:=g6;have g7:a2.size < 128:=g7;have hk:1<=a7/\a7<=5:=hk;have hg:(0<=a4/\a4<=10000)/\(0<=a6/\a6<=10000)/\(0<=a5/\a5<=10000)/\(0<=a3/\a3<=10000):=hg;obtain⟨Rh,XG,XH,XI,XJ,XK,XL,XM,XN,XO,XP,hzt⟩:=hq;have hzt:t.size=8+a0.size+a1.size+a2.size:=hzt;have XQ:t.extract (aaO (5+1)) (aaO (5+1+(a0.size:Int)))=a0:=by rw[show aaO (5+1+(a0.size:Int))=6+a0.size by omega];exact XL
 have XR:t.extract (aaO (6+(a0.size:Int)+1)) (aaO (6+(a0.size:Int)+1+(a1.size:Int)))=a1:=by rw[show aaO (6+(a0.size:Int)+1)=7+a0.size by omega,show aaO (6+(a0.size:Int)+1+(a1.size:Int))=7+a0.size+a1.size by omega];exact XN
 have XS:t.extract (aaO (7+(a0.size:Int)+(a1.size:Int)+1)) (aaO (7+(a0.size:Int)+(a1.size:Int)+1+(a2.size:Int)))=a2:=by rw[show aaO (7+(a0.size:Int)+(a1.size:Int)+1)=8+a0.size+a1.size by omega,show aaO (7+(a0.size:Int)+(a1.size:Int)+1+(a2.size:Int))=8+a0.size+a1.size+a2.size by omega];exact XP
 refine aY Tryz.func274 ?_;refine gx hA 2 ?_;refine gs (gx hA 2 ?_);refine gc (λc1=>?_) (λc1=>?_)
 ·
  have aV:t=(aaP #[]):=pf hA c1;exfalso;rw[aV] at hzt;have hzt:(0:Nat)=8+a0.size+a1.size+a2.size:=hzt;omega
 have aV:t≠(aaP #[]):=oa hA c1;refine gk (gx hA 4 ?_);refine gs ?_;refine cR [0,1,2,3,4,5,6,7] (by cbv) ?_;refine cH hA 1 ?_;have T2:A.bA t=(aaL t:Int):=aS hA t;have b0:(0:Int)<=0:=by omega
 have a8:0 < (aaL t:Int):=by omega
 obtain⟨y2,ta⟩:=nm (bc t 0:Int);refine dc rfl rfl (ml rfl rfl rfl rfl b0 a8 ta) ?_;refine cH hA 2 ?_;obtain⟨w3,hw3,cL⟩:=Pc (y0 A hA t 1 a4 (by rw[show 1=(1:Int) by omega];exact XG) (by omega) (by omega) (by omega) hz);refine P2 0 rfl (by cbv) rfl (by cbv) rfl (by cbv) cL rfl rfl (by cbv) ?_;refine cH hA 3 ?_;refine cS (by cbv) ?_;refine gs (gr (rn hA 1 ?_));obtain⟨w5,hw5,kU⟩:=Pc (y0 A hA t w3 a6 (by rw[show w3=(2:Int) by omega];exact XH) (by omega) (by omega) (by omega) hz);refine nY 0 rfl (by cbv) rfl (by cbv) rfl (by cbv) kU rfl rfl (by cbv) ?_;refine rz hA 2 ?_;refine gs (gr (rn hA 1 ?_));obtain⟨w7,XT,jQ⟩:=Pc (y0 A hA t w5 a5 (by rw[show w5=(3:Int) by omega];exact XI) (by omega) (by omega) (by omega) hz);refine nY 0 rfl (by cbv) rfl (by cbv) rfl (by cbv) jQ rfl rfl (by cbv) ?_;refine rz hA 2 ?_;refine gs (gr (rn hA 1 ?_));obtain⟨w9,zI,b1⟩:=Pc (y0 A hA t w7 a3 (by rw[show w7=(4:Int) by omega];exact XJ) (by omega) (by omega) (by omega) hz);refine nY 0 rfl (by cbv) rfl (by cbv) rfl (by cbv) b1 rfl rfl (by cbv) ?_;refine rz hA 2 ?_;refine gs (gr (rn hA 1 ?_));obtain⟨zL,b7,b2⟩:=SZ (y1 A hA t w9 a0 (by rw[show w9=5 by omega];exact XK) (by rw[show w9=5 by omega];exact XQ) (by omega) (by omega) (by omega) hz);refine nY 0 rfl (by cbv) rfl (by cbv) rfl (by cbv) b2 rfl rfl (by cbv) ?_;refine rz hA 2 ?_;refine gs (gr (rn hA 1 ?_));obtain⟨IL,b5,b4⟩:=SZ (y1 A hA t zL a1 (by rw[show zL=(6+(a0.size:Int)) by omega];exact XM) (by rw[show zL=(6+(a0.size:Int)) by omega];exact XR) (by omega) (by omega) (by omega) hz);refine nY 0 rfl (by cbv) rfl (by cbv) rfl (by cbv) b4 rfl rfl (by cbv) ?_;refine rz hA 2 ?_;refine gs (gr (rn hA 1 ?_));obtain⟨Ug,b6,b3⟩:=SZ (y1 A hA t IL a2 (by rw[show IL=(7+(a0.size:Int)+(a1.size:Int)) by omega];exact XO) (by rw[show IL=(7+(a0.size:Int)+(a1.size:Int)) by omega];exact XS) (by omega) (by omega) (by omega) hz);refine nY 0 rfl (by cbv) rfl (by cbv) rfl (by cbv) b3 rfl rfl (by cbv) ?_;refine rz hA 2 ?_;refine gs ?_;have hkk:A.cw .i64 y2=a7:=by rw[ta,Cg hA (by rw[Rh];show i64 a7;unfold i64;omega),Rh]
 refine gr (rn hA 1 ?_);have a9:al 156 [.agg [.ii (A.cw .i64 y2),.ii a4,.ii a6,.ii a5,.ii a3,.str a0,.str a1,.str a2]] (.aw [.str t,.bool true]):=by exact Pb A hA (⟨(A.cw .i64 y2),a4,a6,a5,a3,a0,a1,a2⟩:aE) t (by rw[hkk];exact hok) (by rw[hkk];exact ht) (by rw[hkk];exact LS hr)
 refine aH a9 (.inr rfl) ?_;refine rz hA 5 ?_;refine gs (gs (gr (rn hA 9 ?_)));refine ag 51 rfl (λlY=>?_) (λlY=>?_)
 ·
  exact ay lY (by subst hA;rfl)
 refine rz hA 4 ?_;refine gc (λjw=>?_) (λjw=>?_)
 ·
  exact ay jw (by subst hA;simp[aj])
 refine gk (gx hA 3 ?_);refine rt (gt ?_);show _=PV.aw [.agg [.ii (A.cw .i64 y2),.ii a4,.ii a6,.ii a5,.ii a3,.str a0,.str a1,.str a2],.bool true];rw[hkk];rfl
theorem Hc (A:ax)(hA:A=aj)(t:ByteArray)(r:aE)(hr:lJ r)(ht:pI A (cn A) r=t)(hz:t.size<=1048576):al 329 [.str t] (.aw [.agg (gY r),.bool true]):=by
 have zt:=aS hA t;have hq:=Rg hA (iP hA) hr ht;obtain⟨hok,g1,g2,g3,g4,g5,g6,g7⟩:=id hr;have hk:=y3 hok;have hg:=rH hok;obtain⟨b2,a2,a6,a5,a3,a0,a1,a4⟩:=r;have g1:a2 < 128:=g1;have g2:a6 < 128:=g2;have g3:a5 < 128:=g3;have g4:a3 < 128:=g4;have g5:a0.size < 128:=g5;have g6:a1.size < 128:=g6;have g7:a4.size < 128:=g7;have hk:1<=b2/\b2<=5:=hk;have hg:(0<=a2/\a2<=10000)/\(0<=a6/\a6<=10000)/\(0<=a5/\a5<=10000)/\(0<=a3/\a3<=10000):=hg;obtain⟨Rh,XG,XH,XI,XJ,XK,XL,XM,XN,XO,XP,hzt⟩:=hq;have hzt:t.size=8+a0.size+a1.size+a4.size:=hzt;have XQ:t.extract (aaO (5+1)) (aaO (5+1+(a0.size:Int)))=a0:=by rw[show aaO (5+1+(a0.size:Int))=6+a0.size by omega];exact XL
 have XR:t.extract (aaO (6+(a0.size:Int)+1)) (aaO (6+(a0.size:Int)+1+(a1.size:Int)))=a1:=by rw[show aaO (6+(a0.size:Int)+1)=7+a0.size by omega,show aaO (6+(a0.size:Int)+1+(a1.size:Int))=7+a0.size+a1.size by omega];exact XN
 have XS:t.extract (aaO (7+(a0.size:Int)+(a1.size:Int)+1)) (aaO (7+(a0.size:Int)+(a1.size:Int)+1+(a4.size:Int)))=a4:=by rw[show aaO (7+(a0.size:Int)+(a1.size:Int)+1)=8+a0.size+a1.size by omega,show aaO (7+(a0.size:Int)+(a1.size:Int)+1+(a4.size:Int))=8+a0.size+a1.size+a4.size by omega];exact XP
 refine aY Tryz.func329 ?_;refine gx hA 2 ?_;refine gs (gx hA 2 ?_);refine gc (λc1=>?_) (λc1=>?_)
 ·
  have aV:t=(aaP #[]):=pf hA c1;exfalso;rw[aV] at hzt;have hzt:(0:Nat)=8+a0.size+a1.size+a4.size:=hzt;omega
 have aV:t≠(aaP #[]):=oa hA c1;refine gk (gs (gr (rn hA 1 ?_)));have T2:A.bA t=(aaL t:Int):=aS hA t;have c5:(0:Int)<=0:=by omega
 have c2:0 < (aaL t:Int):=by omega
 obtain⟨y2,ta⟩:=nm (bc t 0:Int);refine bO rfl rfl (ml rfl rfl rfl rfl c5 c2 ta) ?_;refine rz hA 4 ?_;refine gx hA 1 ?_;refine gs (gs (gr (rn hA 4 ?_)));refine fk rfl (Mx rfl rfl rfl rfl rfl rfl rfl rfl) ?_;refine rz hA 2 ?_;refine af ?_;refine pY 5 ?_;refine gK ?_;refine gx hA 1 ?_;refine gs ?_;refine gc (λc3=>?_) (λc3=>?_)
 ·
  refine gk (gs (af (gx hA 3 ?_)));refine gs (gr (rn hA 2 ?_));obtain⟨b3,c9,eu⟩:=yY (mN A hA t 1 a2 (by rw[show 1=(1:Int) by omega];exact XG) (by omega) (by omega) (by omega) hz);refine aH eu (.inr rfl) ?_;refine rz hA 7 ?_;refine gs (gx hA 2 ?_);refine gc (λc6=>?_) (λc6=>?_)
  ·
   exact ay c6 (by subst hA;rfl)
  refine gk (gx hA 4 ?_);refine gy hA 2 ?_;refine gy hA 2 ?_;refine mj (mZ:=({sl:=.str t::.aa::.pt 2 0 0::.aa::.pt 4 0 0::.ii b3::nE++.own 27::.ii 4::.ii 1::yd,bl:=[(27,⟨.mul,1,[[.pt 4 0 1,.pt 4 0 2,.pt 4 0 3,.pt 4 0 4]]⟩),(4,⟨.var,8,[[.ii (A.cw .i64 y2),.ii a2,.ii 0,.ii 0,.ii 0,.str aaM,.str aaM,.str aaM]]⟩),(2,⟨.var,8,[[.ii 0,.ii 0,.ii 0,.ii 0,.ii 0,.str aaM,.str aaM,.str aaM]]⟩)]}:St)) [] [0,2,4,5,27,28,29,77,78,79] [27,4,2] rfl (by subst hA;rfl) ?_;refine gK ?_;refine gx hA 1 ?_;refine gs ?_;refine gc (λc7=>?_) (λc7=>?_)
  ·
   refine gk (gs (af (gx hA 3 ?_)));refine gs (gr (rn hA 2 ?_));obtain⟨b4,c0,kA⟩:=yY (mN A hA t b3 a6 (by rw[show b3=(2:Int) by omega];exact XH) (by omega) (by omega) (by omega) hz);refine aH kA (.inr rfl) ?_;refine rz hA 7 ?_;refine gs (gx hA 2 ?_);refine gc (λcB=>?_) (λcB=>?_)
   ·
    exact ay cB (by subst hA;rfl)
   refine gk (gx hA 4 ?_);refine gy hA 2 ?_;refine gy hA 2 ?_;refine mj (mZ:=({sl:=.str t::.aa::.pt 2 0 0::.aa::.pt 4 0 0::.ii b4::nE++.own 27::.ii 4::.ii 2::yd,bl:=[(27,⟨.mul,1,[[.pt 4 0 1,.pt 4 0 2,.pt 4 0 3,.pt 4 0 4]]⟩),(4,⟨.var,8,[[.ii (A.cw .i64 y2),.ii a2,.ii a6,.ii 0,.ii 0,.str aaM,.str aaM,.str aaM]]⟩),(2,⟨.var,8,[[.ii 0,.ii 0,.ii 0,.ii 0,.ii 0,.str aaM,.str aaM,.str aaM]]⟩)]}:St)) [] [0,2,4,5,27,28,29,77,78,79] [27,4,2] rfl (by subst hA;rfl) ?_;refine gK ?_;refine gx hA 1 ?_;refine gs ?_;refine gc (λcf=>?_) (λcf=>?_)
   ·
    refine gk (gs (af (gx hA 3 ?_)));refine gs (gr (rn hA 2 ?_));obtain⟨b0,b8,c8⟩:=yY (mN A hA t b4 a5 (by rw[show b4=(3:Int) by omega];exact XI) (by omega) (by omega) (by omega) hz);refine aH c8 (.inr rfl) ?_;refine rz hA 7 ?_;refine gs (gx hA 2 ?_);refine gc (λdF=>?_) (λdF=>?_)
    ·
     exact ay dF (by subst hA;rfl)
    refine gk (gx hA 4 ?_);refine gy hA 2 ?_;refine gy hA 2 ?_;refine mj (mZ:=({sl:=.str t::.aa::.pt 2 0 0::.aa::.pt 4 0 0::.ii b0::nE++.own 27::.ii 4::.ii 3::yd,bl:=[(27,⟨.mul,1,[[.pt 4 0 1,.pt 4 0 2,.pt 4 0 3,.pt 4 0 4]]⟩),(4,⟨.var,8,[[.ii (A.cw .i64 y2),.ii a2,.ii a6,.ii a5,.ii 0,.str aaM,.str aaM,.str aaM]]⟩),(2,⟨.var,8,[[.ii 0,.ii 0,.ii 0,.ii 0,.ii 0,.str aaM,.str aaM,.str aaM]]⟩)]}:St)) [] [0,2,4,5,27,28,29,77,78,79] [27,4,2] rfl (by subst hA;rfl) ?_;refine gK ?_;refine gx hA 1 ?_;refine gs ?_;refine gc (λeL=>?_) (λeL=>?_)
    ·
     refine gk (gs (af (gx hA 3 ?_)));refine gs (gr (rn hA 2 ?_));obtain⟨a9,b9,d3⟩:=yY (mN A hA t b0 a3 (by rw[show b0=(4:Int) by omega];exact XJ) (by omega) (by omega) (by omega) hz);refine aH d3 (.inr rfl) ?_;refine rz hA 7 ?_;refine gs (gx hA 2 ?_);refine gc (λiu=>?_) (λiu=>?_)
     ·
      exact ay iu (by subst hA;rfl)
     refine gk (gx hA 4 ?_);refine gy hA 2 ?_;refine gy hA 2 ?_;refine mj (mZ:=({sl:=.str t::.aa::.pt 2 0 0::.aa::.pt 4 0 0::.ii a9::nE++.own 27::.ii 4::.ii 4::yd,bl:=[(27,⟨.mul,1,[[.pt 4 0 1,.pt 4 0 2,.pt 4 0 3,.pt 4 0 4]]⟩),(4,⟨.var,8,[[.ii (A.cw .i64 y2),.ii a2,.ii a6,.ii a5,.ii a3,.str aaM,.str aaM,.str aaM]]⟩),(2,⟨.var,8,[[.ii 0,.ii 0,.ii 0,.ii 0,.ii 0,.str aaM,.str aaM,.str aaM]]⟩)]}:St)) [] [0,2,4,5,27,28,29,77,78,79] [27,4,2] rfl (by subst hA;rfl) ?_;refine gK ?_;refine gx hA 1 ?_;refine gs ?_;refine gc (λlY=>?_) (λlY=>?_)
     ·
      exact ay lY (by subst hA;rfl)
     refine aI (gE ?_);refine gs (gs (gr (rn hA 3 ?_)));refine fk rfl (Mx rfl rfl rfl rfl rfl rfl rfl rfl) ?_;refine rz hA 2 ?_;refine af ?_;refine pY 4 ?_;refine gK ?_;refine gx hA 1 ?_;refine gs ?_;refine gc (λjw=>?_) (λjw=>?_)
     ·
      refine gk (gs (af (gx hA 3 ?_)));refine gs (gr (rn hA 2 ?_));obtain⟨a8,b5,d0⟩:=Ha (wA A hA t a9 a0 (by rw[show a9=5 by omega];exact XK) (by rw[show a9=5 by omega];exact XQ) (by omega) (by omega) (by omega) hz);refine aH d0 (.inr rfl) ?_;refine rz hA 7 ?_;refine gs (gx hA 2 ?_);refine gc (λjR=>?_) (λjR=>?_)
      ·
       exact ay jR (by subst hA;rfl)
      refine gk (gx hA 4 ?_);refine gy hA 2 ?_;refine gy hA 2 ?_;refine mj (mZ:=({sl:=.str t::.aa::.pt 2 0 0::.aa::.pt 4 0 0::.ii a8::BM++.own 51::.ii 3::.ii 1::BL,bl:=[(51,⟨.mul,1,[[.pt 4 0 5,.pt 4 0 6,.pt 4 0 7]]⟩),(4,⟨.var,8,[[.ii (A.cw .i64 y2),.ii a2,.ii a6,.ii a5,.ii a3,.str a0,.str aaM,.str aaM]]⟩),(2,⟨.var,8,[[.ii 0,.ii 0,.ii 0,.ii 0,.ii 0,.str aaM,.str aaM,.str aaM]]⟩)]}:St)) [] [0,2,4,5,51,52,53,77,78,79] [51,4,2] rfl (by subst hA;rfl) ?_;refine gK ?_;refine gx hA 1 ?_;refine gs ?_;refine gc (λjW=>?_) (λjW=>?_)
      ·
       refine gk (gs (af (gx hA 3 ?_)));refine gs (gr (rn hA 2 ?_));obtain⟨a7,b6,c4⟩:=Ha (wA A hA t a8 a1 (by rw[show a8=(6+(a0.size:Int)) by omega];exact XM) (by rw[show a8=(6+(a0.size:Int)) by omega];exact XR) (by omega) (by omega) (by omega) hz);refine aH c4 (.inr rfl) ?_;refine rz hA 7 ?_;refine gs (gx hA 2 ?_);refine gc (λpn=>?_) (λpn=>?_)
       ·
        exact ay pn (by subst hA;rfl)
       refine gk (gx hA 4 ?_);refine gy hA 2 ?_;refine gy hA 2 ?_;refine mj (mZ:=({sl:=.str t::.aa::.pt 2 0 0::.aa::.pt 4 0 0::.ii a7::BM++.own 51::.ii 3::.ii 2::BL,bl:=[(51,⟨.mul,1,[[.pt 4 0 5,.pt 4 0 6,.pt 4 0 7]]⟩),(4,⟨.var,8,[[.ii (A.cw .i64 y2),.ii a2,.ii a6,.ii a5,.ii a3,.str a0,.str a1,.str aaM]]⟩),(2,⟨.var,8,[[.ii 0,.ii 0,.ii 0,.ii 0,.ii 0,.str aaM,.str aaM,.str aaM]]⟩)]}:St)) [] [0,2,4,5,51,52,53,77,78,79] [51,4,2] rfl (by subst hA;rfl) ?_;refine gK ?_;refine gx hA 1 ?_;refine gs ?_;refine gc (λrj=>?_) (λrj=>?_)
       ·
        refine gk (gs (af (gx hA 3 ?_)));refine gs (gr (rn hA 2 ?_));obtain⟨b1,b7,d4⟩:=Ha (wA A hA t a7 a4 (by rw[show a7=(7+(a0.size:Int)+(a1.size:Int)) by omega];exact XO) (by rw[show a7=(7+(a0.size:Int)+(a1.size:Int)) by omega];exact XS) (by omega) (by omega) (by omega) hz);refine aH d4 (.inr rfl) ?_;refine rz hA 7 ?_;refine gs (gx hA 2 ?_);refine gc (λoo=>?_) (λoo=>?_)
        ·
         exact ay oo (by subst hA;rfl)
        refine gk (gx hA 4 ?_);refine gy hA 2 ?_;refine gy hA 2 ?_;refine mj (mZ:=({sl:=.str t::.aa::.pt 2 0 0::.aa::.pt 4 0 0::.ii b1::BM++.own 51::.ii 3::.ii 3::BL,bl:=[(51,⟨.mul,1,[[.pt 4 0 5,.pt 4 0 6,.pt 4 0 7]]⟩),(4,⟨.var,8,[[.ii (A.cw .i64 y2),.ii a2,.ii a6,.ii a5,.ii a3,.str a0,.str a1,.str a4]]⟩),(2,⟨.var,8,[[.ii 0,.ii 0,.ii 0,.ii 0,.ii 0,.str aaM,.str aaM,.str aaM]]⟩)]}:St)) [] [0,2,4,5,51,52,53,77,78,79] [51,4,2] rfl (by subst hA;rfl) ?_;refine gK ?_;refine gx hA 1 ?_;refine gs ?_;refine gc (λuJ=>?_) (λuJ=>?_)
        ·
         exact ay uJ (by subst hA;rfl)
        refine aI (gE ?_);refine gs (gs ?_);have hkk:A.cw .i64 y2=b2:=by rw[ta,Cg hA (by rw[Rh];show i64 b2;unfold i64;omega),Rh]
        refine gr (rn hA 5 ?_);refine ag 76 rfl (λzE=>?_) (λzE=>?_)
        ·
         have d2:b1≠(A.bA t):=gp hA zE;exfalso;omega
        have d2:b1=(A.bA t):=gq hA zE;refine rn hA 1 ?_;have d1:=Pa A hA (⟨(A.cw .i64 y2),a2,a6,a5,a3,a0,a1,a4⟩:aE) (by rw[hkk];exact hok) (by rw[hkk];exact LS hr);refine fC d1 (.inr rfl) ?_;refine rz hA 2 ?_;refine gc (λqS=>?_) (λqS=>?_)
        ·
         exact ay qS (by subst hA;rfl)
        refine gk (gx hA 3 ?_);refine rt (gt ?_);show _=PV.aw [.agg [.ii (A.cw .i64 y2),.ii a2,.ii a6,.ii a5,.ii a3,.str a0,.str a1,.str a4],.bool true];rw[hkk];rfl
       exact cu rj (by subst hA;rfl)
      exact cu jW (by subst hA;rfl)
     exact cu jw (by subst hA;rfl)
    exact cu eL (by subst hA;rfl)
   exact cu cf (by subst hA;rfl)
  exact cu c7 (by subst hA;rfl)
 exact cu c3 (by subst hA;rfl)
theorem DZ (A:ax)(hA:A=aj)(f:aC)(r:aE)(hr:lJ r)(hf:fN f)(hb:pI A (cn A) r=f.Body):al 319 [.agg (dM f)] (.aw [.agg (aW ⟨f.Seq,r⟩),.bool true]):=by
 obtain⟨b0,a8,a0⟩:=f;refine ak (az:=[.agg [.ii b0,.ii a8,.str a0]]) (by rfl) ?_;have hzb:a0.size < 128:=hf.2.2.2.2.2;have hb:pI A (cn A) r=a0:=hb;obtain⟨a7,a2,a9,a6,a1,a3,a5,a4⟩:=r;refine aY Tryz.func319 ?_;refine gx hA 3 ?_;refine gs (gr (rn hA 2 ?_));have aJ:al 329 [.str a0] (.aw [.agg [.ii a7,.ii a2,.ii a9,.ii a6,.ii a1,.str a3,.str a5,.str a4],.bool true]):=by exact Hc A hA a0 (⟨a7,a2,a9,a6,a1,a3,a5,a4⟩:aE) hr hb (by omega)
 refine aH aJ (.inr rfl) ?_;refine rz hA 6 ?_;refine gs (gs (gr (rn hA 3 ?_)));refine ag 14 rfl (λc3=>?_) (λc3=>?_)
 ·
  exact ay c3 (by subst hA;rfl)
 refine rn hA 1 ?_;have eu:=Bx A hA (⟨b0,a8,a0⟩:aC) true (oB hf) (by show a0.size<=_;omega);refine fC eu (.inr rfl) ?_;refine rz hA 2 ?_;refine gc (λc6=>?_) (λc6=>?_)
 ·
  exact ay c6 (by subst hA;rfl)
 refine gk (gx hA 6 ?_);refine rt (gt ?_);show _=PV.aw [.agg [.ii a8,.ii a7,.ii a2,.ii a9,.ii a6,.ii a1,.str a3,.str a5,.str a4],.bool true];rfl
theorem D0 (A:ax)(hA:A=aj)(f:aC)(r:aE)(hr:lJ r)(hf:fN f)(hb:pI A (dp A) r=f.Body):al 231 [.agg (dM f)] (.aw [.agg (aW ⟨f.Seq,r⟩),.bool true]):=by
 obtain⟨b0,a8,a0⟩:=f;refine ak (az:=[.agg [.ii b0,.ii a8,.str a0]]) (by rfl) ?_;have hzb:a0.size < 128:=hf.2.2.2.2.2;have hb:pI A (dp A) r=a0:=hb;obtain⟨a7,a2,a9,a6,a1,a3,a5,a4⟩:=r;refine aY Tryz.func231 ?_;refine gx hA 3 ?_;refine gs (gr (rn hA 2 ?_));have aJ:al 274 [.str a0] (.aw [.agg [.ii a7,.ii a2,.ii a9,.ii a6,.ii a1,.str a3,.str a5,.str a4],.bool true]):=by exact Hb A hA a0 (⟨a7,a2,a9,a6,a1,a3,a5,a4⟩:aE) hr hb (by omega)
 refine aH aJ (.inr rfl) ?_;refine rz hA 6 ?_;refine gs (gs (gr (rn hA 1 ?_)));have cL:=Rc A hA (⟨b0,a8,a0⟩:aC) true (oB hf) (by show a0.size<=_;omega);refine aH cL (.inr rfl) ?_;refine rn hA 2 ?_;refine ag 15 rfl (λc5=>?_) (λc5=>?_)
 ·
  exact ay c5 (by subst hA;rfl)
 refine rz hA 3 ?_;refine gc (λc6=>?_) (λc6=>?_)
 ·
  exact ay c6 (by subst hA;rfl)
 refine gk (gx hA 6 ?_);refine rt (gt ?_);show _=PV.aw [.agg [.ii a8,.ii a7,.ii a2,.ii a9,.ii a6,.ii a1,.str a3,.str a5,.str a4],.bool true];rfl
def Xz (p0:ByteArray)(p1 p2:Int)(p3:RR):St:={sl:=.str p0::.ii p1::iB++.own 11::.ii p2::vh,bl:=[(11,⟨.arr,3,p3⟩)]}
theorem Cr (A:ax)(hA:A=aj)(t:ByteArray)(gen:Int)(fs:List aC)(e:Nat)(hg:gen=1)(Re:fU A (cn A) (fL A) t fs 0 e)(hz:t.size<=1048576):al 326 [.str t,.ii gen] (.aw [.ow 3 (aaN kf fs),.ii (e:Int)]):=by
 refine aY Tryz.func326 ?_;refine gx hA 2 ?_;refine gx hA 2 ?_;refine gx hA 1 ?_;refine af ?_;refine aF (λσ m=>∃(i q:Nat) (n:Int) (R:RR),σ=(Xz t gen n R)/\(n=(q:Int)/\i<=aaK fs/\R=aaN kf (aa8 i fs)/\fU A (cn A) (fL A) t (abi i fs) q e)/\m=aaK fs - i) _ [.up 11] [0,1,6,7] [11] _ rfl (by cbv) ⟨0,0,0,[],rfl,?_,rfl⟩ (λσ m hI=>?_)
 ·
  exact⟨rfl,aaW _,rfl,Re⟩
 obtain⟨i,q,n,R,rfl,⟨hn,hi,hR,hS⟩,rfl⟩:=hI;refine af (gs ?_);rcases Nat.lt_or_ge i (aaK fs) with hlt | vw
 ·
  obtain⟨f,IQ,iI,vA,XA,XB⟩:=Nu hS hlt;obtain⟨a4,a7,a5⟩:=f;have vA:a4=1:=vA;refine gr (rn hA 2 ?_);obtain⟨b6,c0,aJ⟩:=Ue (n+((hC (⟨a4,a7,a5⟩:aC):Nat):Int)) a4 a7 a5 true (IP A hA t n (⟨a4,a7,a5⟩:aC) (by omega) iI (by rw[hn];exact XA) hz);refine aH aJ (.inr rfl) ?_;refine rz hA 8 ?_;refine gs (gs (gr (rn hA 3 ?_)));refine ag 21 rfl (λc3=>?_) (λc3=>?_)
  ·
   exact ay c3 (by subst hA;rfl)
  refine rz hA 5 ?_;refine gc (λc4=>?_) (λc4=>?_)
  ·
   have du:a4≠gen:=gp hA c4;exfalso;omega
  have du:a4=gen:=gq hA c4;refine gk (gs (gr (rn hA 3 ?_)));obtain⟨r5,kr⟩:=nm (R++[[.ii a4,.ii a7,.str a5]]:RR);have vG:r5=aaN kf ((aa8 i fs)++([(⟨a4,a7,a5⟩:aC)])):=by rw[kr];exact cM hR (by rfl)
  have TS:=ab hA vG;refine ju kr ?_ (hl:=by
   show(aaK R+aaK ([[.ii a4,.ii a7,.str a5]])) * _<=_;have hle:=tX Re;show(aaK R+1) * 32<=_;rw[hR,aaS,aa1];omega)
  refine rz hA 1 ?_;refine gy hA 2 ?_;refine⟨_,_,?_,by cbv,(i+1),(q+hC (⟨a4,a7,a5⟩:aC)),b6,r5,rfl,?_,rfl⟩
  ·
   omega
  refine⟨by rw[c0];omega,by omega,?_,XB⟩;rw[aa6,IQ];exact vG
 obtain⟨QZ,oX,nV,Il,A9⟩:=LR hS vw;refine gr (rn hA 2 ?_);obtain⟨d6,d8,c7,e5,d2,d5,c2,e1,fq⟩:=XC (O5 A hA t n (by omega) (by omega) (by rw[hn];exact nV) (by rw[hn];exact Il) (by rw[hn];exact A9) hz);refine aH fq (.inr rfl) ?_;refine rz hA 8 ?_;refine gs (gs (gr (rn hA 3 ?_)));refine ag 21 rfl (λc8=>?_) (λc8=>?_)
 ·
  refine rz hA 5 ?_;refine gc (λc9=>?_) (λc9=>?_)
  ·
   refine gx hA 4 ?_;refine rt (gt ?_);show _=PV.aw [.ow 3 R,.ii n];rw[hR,aaU (by omega),hn,QZ]
  exact cu c9 (by rfl)
 exact cu c8 (by subst hA;rfl)
def XD (p0:ByteArray)(p1 p2:Int)(p3:RR):St:={sl:=.str p0::.ii p1::iB++.own 11::.ii p2::vh,bl:=[(11,⟨.arr,3,p3⟩)]}
theorem Cs (A:ax)(hA:A=aj)(t:ByteArray)(gen:Int)(fs:List aC)(e:Nat)(hg:gen=1)(Re:fU A (dp A) (iw A) t fs 0 e)(hz:t.size<=1048576):al 271 [.str t,.ii gen] (.aw [.ow 3 (aaN kf fs),.ii (e:Int)]):=by
 refine aY Tryz.func271 ?_;refine gx hA 2 ?_;refine gx hA 2 ?_;refine gx hA 1 ?_;refine af ?_;refine aF (λσ m=>∃(i q:Nat) (n:Int) (R:RR),σ=(XD t gen n R)/\(n=(q:Int)/\i<=aaK fs/\R=aaN kf (aa8 i fs)/\fU A (dp A) (iw A) t (abi i fs) q e)/\m=aaK fs - i) _ [.up 11] [0,1,6,7] [11] _ rfl (by cbv) ⟨0,0,0,[],rfl,?_,rfl⟩ (λσ m hI=>?_)
 ·
  exact⟨rfl,aaW _,rfl,Re⟩
 obtain⟨i,q,n,R,rfl,⟨hn,hi,hR,hS⟩,rfl⟩:=hI;refine af (gs ?_);rcases Nat.lt_or_ge i (aaK fs) with hlt | vw
 ·
  obtain⟨f,IQ,iI,vA,XA,XB⟩:=Nu hS hlt;obtain⟨a4,a7,a5⟩:=f;have vA:a4=1:=vA;refine gr (rn hA 2 ?_);obtain⟨b6,c0,aJ⟩:=Ue (n+((hC (⟨a4,a7,a5⟩:aC):Nat):Int)) a4 a7 a5 true (IT A hA t n (⟨a4,a7,a5⟩:aC) (by omega) iI (by rw[hn];exact XA) hz);refine aH aJ (.inr rfl) ?_;refine rz hA 8 ?_;refine gs (gs (gr (rn hA 3 ?_)));refine ag 21 rfl (λc3=>?_) (λc3=>?_)
  ·
   exact ay c3 (by subst hA;rfl)
  refine rz hA 5 ?_;refine gc (λc4=>?_) (λc4=>?_)
  ·
   have du:a4≠gen:=gp hA c4;exfalso;omega
  have du:a4=gen:=gq hA c4;refine gk (gs (gr (rn hA 3 ?_)));obtain⟨r5,kr⟩:=nm (R++[[.ii a4,.ii a7,.str a5]]:RR);have vG:r5=aaN kf ((aa8 i fs)++([(⟨a4,a7,a5⟩:aC)])):=by rw[kr];exact cM hR (by rfl)
  have TS:=ab hA vG;refine ju kr ?_ (hl:=by
   show(aaK R+aaK ([[.ii a4,.ii a7,.str a5]])) * _<=_;have hle:=tX Re;show(aaK R+1) * 32<=_;rw[hR,aaS,aa1];omega)
  refine rz hA 1 ?_;refine gy hA 2 ?_;refine⟨_,_,?_,by cbv,(i+1),(q+hC (⟨a4,a7,a5⟩:aC)),b6,r5,rfl,?_,rfl⟩
  ·
   omega
  refine⟨by rw[c0];omega,by omega,?_,XB⟩;rw[aa6,IQ];exact vG
 obtain⟨QZ,oX,nV,Il,A9⟩:=LR hS vw;refine gr (rn hA 2 ?_);obtain⟨d6,d8,c7,e5,d2,d5,c2,e1,fq⟩:=XC (O8 A hA t n (by omega) (by omega) (by rw[hn];exact nV) (by rw[hn];exact Il) (by rw[hn];exact A9) hz);refine aH fq (.inr rfl) ?_;refine rz hA 8 ?_;refine gs (gs (gr (rn hA 3 ?_)));refine ag 21 rfl (λc8=>?_) (λc8=>?_)
 ·
  refine rz hA 5 ?_;refine gc (λc9=>?_) (λc9=>?_)
  ·
   refine gx hA 4 ?_;refine rt (gt ?_);show _=PV.aw [.ow 3 R,.ii n];rw[hR,aaU (by omega),hn,QZ]
  exact cu c9 (by rfl)
 exact cu c8 (by subst hA;rfl)
theorem zJ (A:ax)(hA:A=aj)(d:bj)(seg:Int)(hd:eM d)(hc:d.Cache=[])(h0:0<=seg)(h1:seg<=10)(h2:16+seg * 8<=(d.aD.length:Int))(fs:List aC)(e:Nat)(hS:fU A (cn A) (fL A) (bU (aa8 (aaO 8) (abi (aaO (8+seg * 8)) d.aD))) ((⟨1,1,(aaP #[115,101,103])⟩:aC)::fs) 0 e):al 318 [.agg (gf d),.ii seg] (.ii 1):=by
 obtain⟨a0,a1⟩:=d;obtain⟨a6,a2,b4⟩:=nr hA ah a0;obtain⟨a8,a3,b7⟩:=nr hA bn a1;refine ak (az:=[.agg [.sl 1 a6,.sl 2 a8],.ii seg]) (by subst a2 a3;rfl) ?_;have iy:=hd;obtain⟨cN,dO,eV,dx,ew⟩:=hd;have cN:1<=aaK a0:=cN;have dO:aaK a0<=100:=dO;have eV:aaK a1<=60:=eV;have dx:∀ s∈a0,s.size=32:=dx;have ew:∀ w∈a1,0<=w.At/\w.At < (a0.length:Int)/\w.Text.size=32:=ew;have hc:a1=[]:=hc;have h2:16+seg * 8<=(a0.length:Int):=h2;have hS:fU A (cn A) (fL A) (bU (aa8 (aaO 8) (abi (aaO (8+seg * 8)) a0))) ((⟨1,1,(aaP #[115,101,103])⟩:aC)::fs) 0 e:=hS;have qR:aaL (bU (aa8 (aaO 8) (abi (aaO (8+seg * 8)) a0)))<=32 * aaO 8:=mM dx _ _;have qR:aaL (bU (aa8 (aaO 8) (abi (aaO (8+seg * 8)) a0)))<=256:=qR;refine aY Tryz.func318 ?_;refine gx hA 2 ?_;refine gs (gr (rn hA 2 ?_));obtain⟨b1,a9,aJ⟩:=JV (bU (aa8 (aaO 8) (abi (aaO (8+seg * 8)) a0))) (xO A hA (⟨a0,a1⟩:bj) seg (by assumption) (by first | rfl | assumption) (by omega) (by omega) (by omega));refine aH aJ (.inr rfl) ?_ (hv:=by subst a2 a3;rfl);obtain⟨b5,d7,b0,e6,b3,d4,b2,e3,cL⟩:=Uf 1 1 (aaP #[115,101,103]) (0+((hC (⟨1,1,(aaP #[115,101,103])⟩:aC):Nat):Int)) true (IP A hA b1 0 (⟨1,1,(aaP #[115,101,103])⟩:aC) (by omega) hS.1 (by rw[a9];exact hS.2.2.1) (by rw[a9];omega));refine aH cL (.inr rfl) ?_;refine rz hA 8 ?_;refine gs (gx hA 3 ?_);refine gc (λc5=>?_) (λc5=>?_)
 ·
  have fu:b0≠(aaP #[115,101,103]):=mm hA c5;exact absurd b2 fu
 have fu:b0=(aaP #[115,101,103]):=na hA c5;refine gk (gx hA 3 ?_);refine rt (gt ?_);show _=(PV.int .i64 b5);rw[b3]
theorem DX (A:ax)(hA:A=aj)(d:bj)(seg:Int)(hd:eM d)(hc:d.Cache=[])(h0:0<=seg)(h1:seg<=10)(h2:16+seg * 8<=(d.aD.length:Int))(fs:List aC)(e:Nat)(hS:fU A (cn A) (fL A) (bU (aa8 (aaO 8) (abi (aaO (8+seg * 8)) d.aD))) ((⟨1,1,(aaP #[115,101,103])⟩:aC)::fs) 0 e):al 317 [.agg (gf d),.ii seg] (.aw [.sl 3 (aaN dM fs),.ii (e:Int)]):=by
 obtain⟨a0,a1⟩:=d;obtain⟨a6,a2,b4⟩:=nr hA ah a0;obtain⟨a8,a3,b7⟩:=nr hA bn a1;refine ak (az:=[.agg [.sl 1 a6,.sl 2 a8],.ii seg]) (by subst a2 a3;rfl) ?_;have iy:=hd;obtain⟨cN,dO,eV,dx,ew⟩:=hd;have cN:1<=aaK a0:=cN;have dO:aaK a0<=100:=dO;have eV:aaK a1<=60:=eV;have dx:∀ s∈a0,s.size=32:=dx;have ew:∀ w∈a1,0<=w.At/\w.At < (a0.length:Int)/\w.Text.size=32:=ew;have hc:a1=[]:=hc;have h2:16+seg * 8<=(a0.length:Int):=h2;have hS:fU A (cn A) (fL A) (bU (aa8 (aaO 8) (abi (aaO (8+seg * 8)) a0))) ((⟨1,1,(aaP #[115,101,103])⟩:aC)::fs) 0 e:=hS;have qR:aaL (bU (aa8 (aaO 8) (abi (aaO (8+seg * 8)) a0)))<=32 * aaO 8:=mM dx _ _;have qR:aaL (bU (aa8 (aaO 8) (abi (aaO (8+seg * 8)) a0)))<=256:=qR;refine aY Tryz.func317 ?_;refine gx hA 3 ?_;refine gs (gr (rn hA 2 ?_));obtain⟨b1,a9,aJ⟩:=yZ (1) (zJ A hA (⟨a0,a1⟩:bj) seg (by assumption) hc h0 h1 h2 fs e hS);refine aH aJ (.inr rfl) ?_ (hv:=by subst a2 a3;rfl);refine rz hA 1 ?_;refine gs (gx hA 2 ?_);refine gc (λc3=>?_) (λc3=>?_)
 ·
  have cI:b1=0:=eE hA c3;exfalso;omega
 have cI:b1≠0:=eF hA c3;refine gk (gs (gr (rn hA 2 ?_)));obtain⟨f2,d1,eu⟩:=JV (bU (aa8 (aaO 8) (abi (aaO (8+seg * 8)) a0))) (xO A hA (⟨a0,a1⟩:bj) seg (by assumption) (by first | rfl | assumption) (by omega) (by omega) (by omega));refine aH eu (.inr rfl) ?_ (hv:=by subst a2 a3;rfl);refine rn hA 1 ?_;obtain⟨e7,e0,b8,e2,fq⟩:=O9 (aaN kf ((⟨1,1,(aaP #[115,101,103])⟩:aC)::fs)) (e:Int) (Cr A hA f2 b1 ((⟨1,1,(aaP #[115,101,103])⟩:aC)::fs) e a9 (by rw[d1];exact hS) (by rw[d1];omega));have f3:=ab hA b8;obtain⟨jX,d0⟩:=nm (ar e7:RR);have c1:jX=aaN dM ((⟨1,1,(aaP #[115,101,103])⟩:aC)::fs):=by rw[d0,b8];exact BA _
 have f5:=ab hA c1;refine lL (r':=.aw [.sl 3 jX,.ii e0]) rfl rfl (by cbv) (by cbv) fq (.inr rfl) (by subst d0;rfl) ?_;refine rz hA 5 ?_;refine gs (gr (rn hA 1 ?_));obtain⟨u9,Rf⟩:=nm ((abi (aaO 1) jX).take (aaO (aaK jX:Int) - aaO 1):RR);have Nv:u9=aaN dM (abi (aaO 1) ((⟨1,1,(aaP #[115,101,103])⟩:aC)::fs)):=by rw[Rf,c1,abb,aaU (by rw[abo];omega)];exact(List.map_drop ..).symm
 have lu9:=ab hA Nv;have XE:(0:Int)<=1:=by first | omega | (simp only[aa5];omega)
 have XF:1<=(aaK jX:Int):=by rw[c1,aaS];first | omega | (simp only[aa5];omega)
 refine bO rfl rfl (AJ rfl rfl rfl rfl rfl rfl XE XF (acp _) rfl Rf) ?_;refine rz hA 3 ?_;refine rt (gt ?_);show _=PV.aw [.sl 3 u9,.ii e0];simp only[Nv,a9,d1,b8,e2];rfl
theorem zK (A:ax)(hA:A=aj)(d:bj)(seg:Int)(hd:eM d)(hc:d.Cache=[])(h0:0<=seg)(h1:seg<=10)(h2:16+seg * 8<=(d.aD.length:Int))(fs:List aC)(e:Nat)(hS:fU A (dp A) (iw A) (bU (aa8 (aaO 8) (abi (aaO (8+seg * 8)) d.aD))) ((⟨1,1,(aaP #[115,101,103])⟩:aC)::fs) 0 e):al 230 [.agg (gf d),.ii seg] (.ii 1):=by
 obtain⟨a0,a1⟩:=d;obtain⟨a6,a2,b4⟩:=nr hA ah a0;obtain⟨a8,a3,b7⟩:=nr hA bn a1;refine ak (az:=[.agg [.sl 1 a6,.sl 2 a8],.ii seg]) (by subst a2 a3;rfl) ?_;have iy:=hd;obtain⟨cN,dO,eV,dx,ew⟩:=hd;have cN:1<=aaK a0:=cN;have dO:aaK a0<=100:=dO;have eV:aaK a1<=60:=eV;have dx:∀ s∈a0,s.size=32:=dx;have ew:∀ w∈a1,0<=w.At/\w.At < (a0.length:Int)/\w.Text.size=32:=ew;have hc:a1=[]:=hc;have h2:16+seg * 8<=(a0.length:Int):=h2;have hS:fU A (dp A) (iw A) (bU (aa8 (aaO 8) (abi (aaO (8+seg * 8)) a0))) ((⟨1,1,(aaP #[115,101,103])⟩:aC)::fs) 0 e:=hS;have qR:aaL (bU (aa8 (aaO 8) (abi (aaO (8+seg * 8)) a0)))<=32 * aaO 8:=mM dx _ _;have qR:aaL (bU (aa8 (aaO 8) (abi (aaO (8+seg * 8)) a0)))<=256:=qR;refine aY Tryz.func230 ?_;refine gx hA 2 ?_;refine gs (gr (rn hA 2 ?_));obtain⟨b1,a9,aJ⟩:=JV (bU (aa8 (aaO 8) (abi (aaO (8+seg * 8)) a0))) (xP A hA (⟨a0,a1⟩:bj) seg (by assumption) (by first | rfl | assumption) (by omega) (by omega) (by omega));refine aH aJ (.inr rfl) ?_ (hv:=by subst a2 a3;rfl);obtain⟨b5,d7,b0,e6,b3,d4,b2,e3,cL⟩:=Uf 1 1 (aaP #[115,101,103]) (0+((hC (⟨1,1,(aaP #[115,101,103])⟩:aC):Nat):Int)) true (IT A hA b1 0 (⟨1,1,(aaP #[115,101,103])⟩:aC) (by omega) hS.1 (by rw[a9];exact hS.2.2.1) (by rw[a9];omega));refine aH cL (.inr rfl) ?_;refine rz hA 8 ?_;refine gs (gs (gr (rn hA 3 ?_)));refine ag 18 rfl (λc5=>?_) (λc5=>?_)
 ·
  exact ay c5 (by subst hA;rfl)
 refine rz hA 4 ?_;refine gc (λc6=>?_) (λc6=>?_)
 ·
  have cp:b0≠(aaP #[115,101,103]):=mm hA c6;exact absurd b2 cp
 have cp:b0=(aaP #[115,101,103]):=na hA c6;refine gk (gx hA 3 ?_);refine rt (gt ?_);show _=(PV.int .i64 b5);rw[b3]
theorem DY (A:ax)(hA:A=aj)(d:bj)(seg:Int)(hd:eM d)(hc:d.Cache=[])(h0:0<=seg)(h1:seg<=10)(h2:16+seg * 8<=(d.aD.length:Int))(fs:List aC)(e:Nat)(hS:fU A (dp A) (iw A) (bU (aa8 (aaO 8) (abi (aaO (8+seg * 8)) d.aD))) ((⟨1,1,(aaP #[115,101,103])⟩:aC)::fs) 0 e):al 229 [.agg (gf d),.ii seg] (.aw [.ow 3 (aaN kf fs),.ii (e:Int)]):=by
 obtain⟨a0,a1⟩:=d;obtain⟨a6,a2,b4⟩:=nr hA ah a0;obtain⟨a8,a3,b7⟩:=nr hA bn a1;refine ak (az:=[.agg [.sl 1 a6,.sl 2 a8],.ii seg]) (by subst a2 a3;rfl) ?_;have iy:=hd;obtain⟨cN,dO,eV,dx,ew⟩:=hd;have cN:1<=aaK a0:=cN;have dO:aaK a0<=100:=dO;have eV:aaK a1<=60:=eV;have dx:∀ s∈a0,s.size=32:=dx;have ew:∀ w∈a1,0<=w.At/\w.At < (a0.length:Int)/\w.Text.size=32:=ew;have hc:a1=[]:=hc;have h2:16+seg * 8<=(a0.length:Int):=h2;have hS:fU A (dp A) (iw A) (bU (aa8 (aaO 8) (abi (aaO (8+seg * 8)) a0))) ((⟨1,1,(aaP #[115,101,103])⟩:aC)::fs) 0 e:=hS;have qR:aaL (bU (aa8 (aaO 8) (abi (aaO (8+seg * 8)) a0)))<=32 * aaO 8:=mM dx _ _;have qR:aaL (bU (aa8 (aaO 8) (abi (aaO (8+seg * 8)) a0)))<=256:=qR;refine aY Tryz.func229 ?_;refine gx hA 3 ?_;refine gs (gr (rn hA 2 ?_));obtain⟨b1,a9,aJ⟩:=yZ (1) (zK A hA (⟨a0,a1⟩:bj) seg (by assumption) hc h0 h1 h2 fs e hS);refine aH aJ (.inr rfl) ?_ (hv:=by subst a2 a3;rfl);refine rz hA 1 ?_;refine gs (gx hA 2 ?_);refine gc (λc3=>?_) (λc3=>?_)
 ·
  have cI:b1=0:=eE hA c3;exfalso;omega
 have cI:b1≠0:=eF hA c3;refine gk (gs (gr (rn hA 2 ?_)));obtain⟨f1,d3,eu⟩:=JV (bU (aa8 (aaO 8) (abi (aaO (8+seg * 8)) a0))) (xP A hA (⟨a0,a1⟩:bj) seg (by assumption) (by first | rfl | assumption) (by omega) (by omega) (by omega));refine aH eu (.inr rfl) ?_ (hv:=by subst a2 a3;rfl);refine rn hA 1 ?_;obtain⟨e8,d9,b9,e4,fq⟩:=O9 (aaN kf ((⟨1,1,(aaP #[115,101,103])⟩:aC)::fs)) (e:Int) (Cs A hA f1 b1 ((⟨1,1,(aaP #[115,101,103])⟩:aC)::fs) e a9 (by rw[d3];exact hS) (by rw[d3];omega));have f4:=ab hA b9;obtain⟨jX,d0⟩:=nm (ar e8:RR);have c1:jX=aaN dM ((⟨1,1,(aaP #[115,101,103])⟩:aC)::fs):=by rw[d0,b9];exact BA _
 have f5:=ab hA c1;refine lL (r':=.aw [.sl 3 jX,.ii d9]) rfl rfl (by cbv) (by cbv) fq (.inr rfl) (by subst d0;rfl) ?_;refine rz hA 5 ?_;refine gs (gr (rn hA 2 ?_));obtain⟨u9,Rf⟩:=nm ((abi (aaO 1) jX).take (aaO (aaK jX:Int) - aaO 1):RR);have Nv:u9=aaN dM (abi (aaO 1) ((⟨1,1,(aaP #[115,101,103])⟩:aC)::fs)):=by rw[Rf,c1,abb,aaU (by rw[abo];omega)];exact(List.map_drop ..).symm
 have lu9:=ab hA Nv;have XE:(0:Int)<=1:=by first | omega | (simp only[aa5];omega)
 have XF:1<=(aaK jX:Int):=by rw[c1,aaS];first | omega | (simp only[aa5];omega)
 refine bO rfl rfl (AJ rfl rfl rfl rfl rfl rfl XE XF (acp _) rfl Rf) ?_;obtain⟨r10,f0⟩:=nm (([])++u9:RR);have e9:r10=aaN kf (([])++(abi (aaO 1) ((⟨1,1,(aaP #[115,101,103])⟩:aC)::fs))):=by rw[f0];exact cM rfl Nv
 have f6:=ab hA e9;refine ju f0 ?_ (hl:=by
  show(aaK ([])+aaK u9) * _<=_;have hle:=tX hS;rw[aa5] at hle;rw[Nv,aaS,abo,aa5,List.length_nil];show(0+(aaK fs+1 - 1)) * 32<=_;omega)
 refine rz hA 3 ?_;refine rt (gt ?_);show _=PV.aw [.ow 3 r10,.ii d9];simp only[e9,a9,d3,b9,e4];rfl
def XU (p0:RR)(p1 p2 p3 p4 p5:Int)(p6:RR):St:={sl:=dV++.pt 3 0 0::YI++.sl 3 p0::.ii p1::.ii p2::nE,bl:=[(3,⟨.var,4,[[.ii p3,.ii p4,.ii p5,.sl 9 p6]]⟩)]}
theorem Jn (A:ax)(hA:A=aj)(d:bj)(s:bu)(hd:eM d)(hc:d.Cache=[])(hs:JT A (cn A) (fL A) d s):al 294 [.agg (gf d),.agg (cA s)] (.bool true):=by
 obtain⟨a1,c4⟩:=d;obtain⟨d9,d0,e5⟩:=nr hA ah a1;obtain⟨e1,d3,f2⟩:=nr hA bn c4;obtain⟨c2,c3,b5,a0⟩:=s;obtain⟨b2,d5,e7⟩:=nr hA aW a0;refine ak (az:=[.agg [.sl 1 d9,.sl 2 e1],.agg [.ii c2,.ii c3,.ii b5,.sl 9 b2]]) (by subst d0 d3 d5;rfl) ?_;have iy:=hd;obtain⟨cN,dO,eV,dx,ew⟩:=hd;have cN:1<=aaK a1:=cN;have dO:aaK a1<=100:=dO;have eV:aaK c4<=60:=eV;have dx:∀ s∈a1,s.size=32:=dx;have ew:∀ w∈c4,0<=w.At/\w.At < (a1.length:Int)/\w.Text.size=32:=ew;have hc:c4=[]:=hc;obtain⟨s1,s2,s3,s4,s5,s6,s7⟩:=hs;have s1:0<=c2:=s1;have s2:c2<=10:=s2;have s3:16+c2 * 8<=(a1.length:Int):=s3;have s4:c3=1:=s4;have s5:0<=b5:=s5;have s6:fU A (cn A) (fL A) (ke a1 c2) (uS::eX A (cn A) a0) 0 (aaO b5):=s6;have s7:∀ x∈a0,xK A (cn A) x:=s7;have lfr:aaK (eX A (cn A) a0)=aaK a0:=aaS ..;have hle:=tX s6;have hzx:(ke a1 c2).size<=32 * aaO 8:=mM dx _ _;have hzx:(ke a1 c2).size<=256:=hzx;rw[aa5] at hle;refine aY Tryz.func294 ?_;refine gx hA 3 ?_;refine gs (gr (rn hA 3 ?_));obtain⟨b0,e0,d8,f5,aJ⟩:=ZI (aaN dM (eX A (cn A) a0)) ((aaO b5:Nat):Int) (DX A hA (⟨a1,c4⟩:bj) c2 (by assumption) hc s1 s2 s3 (eX A (cn A) a0) (aaO b5) s6);have f3:=ab hA d8;refine aH aJ (.inr rfl) ?_ (hv:=by subst d0 d3;rfl);refine rz hA 5 ?_;refine gs (gs ?_);refine cz [0,1,2,3,4,5,6,7,8,9,10,11,12,13,14,15,16,17,18,19,20,21,22,23,24,25] (by cbv) ?_;refine bL hA 3 ?_;obtain⟨e2,f7,cL⟩:=yZ (1) (zJ A hA (⟨a1,c4⟩:bj) c2 (by assumption) hc s1 s2 s3 (eX A (cn A) a0) (aaO b5) s6);refine eQ cL (.inr rfl) ?_ (hv:=by subst d0 d3;rfl);refine bL hA 4 ?_;refine bV 25 rfl (λc5=>?_) (λc5=>?_)
 ·
  have fu:e2≠c3:=gp hA c5;exfalso;omega
 have fu:e2=c3:=gq hA c5;refine bL hA 5 ?_;refine bV 30 rfl (λc6=>?_) (λc6=>?_)
 ·
  have cp:c3=0:=eE hA c6;exfalso;omega
 have cp:c3≠0:=eF hA c6;refine bL hA 6 ?_;refine bV 36 rfl (λc7=>?_) (λc7=>?_)
 ·
  have jx:e0≠b5:=gp hA c7;exfalso;omega
 have jx:e0=b5:=gq hA c7;refine dz hA 7 ?_;refine gc (λc8=>?_) (λc8=>?_)
 ·
  have gz:(A.ao b0)≠(A.ao b2):=gp hA c8;exfalso;omega
 have gz:(A.ao b0)=(A.ao b2):=gq hA c8;refine gk (gs (gx hA 3 ?_));refine af ?_;refine aF (λσ m=>∃(i:Nat) (n:Int),σ=(XU b0 (A.ao b0) n c2 c3 b5 b2)/\(n=(i:Int)/\i<=aaK a0)/\m=aaK a0 - i) _ [] [3,44,45,46] [3] _ rfl (by cbv) ⟨0,0,rfl,?_,rfl⟩ (λσ m hI=>?_)
 ·
  exact⟨rfl,aaW _⟩
 obtain⟨i,n,rfl,⟨hn,hi⟩,rfl⟩:=hI;refine gx hA 1 ?_;refine gs ?_;refine gc (λc9=>?_) (λc9=>?_)
 ·
  have po:n < (A.ao b0):=aP hA c9;refine gk (gs (af (gs (gr (rn hA 1 ?_)))));obtain⟨e8,g1,Uh,e4,g0⟩:=ga (eX A (cn A) a0) n (by omega) (by omega);obtain⟨d4,b1,d2⟩:=Uh;have e9:b0[(aaO n)]? =some [.ii d4,.ii b1,.str d2]:=by
   exact bC dM d8 e4
  have d6:=e4;rw[hn] at d6;have d6:((eX A (cn A) a0))[i]? =some (⟨d4,b1,d2⟩:aC):=d6;obtain⟨x0,vx,AP,Qt,XV,Ri⟩:=IU s7 d6;obtain⟨e3,⟨c0,b4,d1,b9,b3,b8,c1,b7⟩⟩:=x0;have AP:lJ (⟨c0,b4,d1,b9,b3,b8,c1,b7⟩:aE):=AP;refine ee e8 e9 ?_;refine rz hA 4 ?_;refine gs (gr (rn hA 1 ?_));have f6:al 319 [.agg [.ii d4,.ii b1,.str d2]] (.aw [.agg [.ii b1,.ii c0,.ii b4,.ii d1,.ii b9,.ii b3,.str b8,.str c1,.str b7],.bool true]):=by exact DZ A hA (⟨d4,b1,d2⟩:aC) (⟨c0,b4,d1,b9,b3,b8,c1,b7⟩:aE) AP Qt XV
  refine aH f6 (.inr rfl) ?_;refine rz hA 6 ?_;refine gs ?_;refine cz [0,1,2,3,4,5,6,7,8,9,10] (by cbv) ?_;refine bL hA 3 ?_;refine bV 58 rfl (λeU=>?_) (λeU=>?_)
  ·
   exact ay eU (by subst hA;rfl)
  refine bL hA 4 ?_;obtain⟨f1,f9,x14,e6,f8⟩:=ga a0 n (by omega) (by omega);obtain⟨b6,⟨a8,a3,a9,a6,a2,a5,a4,a7⟩⟩:=x14;have f0:b2[(aaO n)]? =some [.ii b6,.ii a8,.ii a3,.ii a9,.ii a6,.ii a2,.str a5,.str a4,.str a7]:=by
   exact bC aW d5 e6
  have d7:=e6;rw[hn] at d7;have d7:(a0)[i]? =some (⟨b6,⟨a8,a3,a9,a6,a2,a5,a4,a7⟩⟩:ae):=d7;have heq:(⟨e3,(⟨c0,b4,d1,b9,b3,b8,c1,b7⟩:aE)⟩:ae)=(⟨b6,⟨a8,a3,a9,a6,a2,a5,a4,a7⟩⟩:ae):=by
   have h2:=vx.symm.trans d7;exact Option.some.inj h2
  have hsq:b1=e3:=Ri;refine lD rfl rfl rfl rfl rfl (jO rfl rfl rfl rfl rfl f1 rfl f0) ?_;refine dz hA 3 ?_;refine gc (λeL=>?_) (λeL=>?_)
  ·
   have iA:(A.sd [.ii b1,.ii c0,.ii b4,.ii d1,.ii b9,.ii b3,.str b8,.str c1,.str b7] [.ii b6,.ii a8,.ii a3,.ii a9,.ii a6,.ii a2,.str a5,.str a4,.str a7])=false:=ck hA eL;have f4:([.ii b1,.ii c0,.ii b4,.ii d1,.ii b9,.ii b3,.str b8,.str c1,.str b7]:List PV)≠[.ii b6,.ii a8,.ii a3,.ii a9,.ii a6,.ii a2,.str a5,.str a4,.str a7]:=N7 hA (by rfl) iA;exact absurd (by
    have h:=congrArg aW heq;rw[<- hsq] at h;exact h) f4
  have gG:(A.sd [.ii b1,.ii c0,.ii b4,.ii d1,.ii b9,.ii b3,.str b8,.str c1,.str b7] [.ii b6,.ii a8,.ii a3,.ii a9,.ii a6,.ii a2,.str a5,.str a4,.str a7])=true:=cm hA eL;have g2:([.ii b1,.ii c0,.ii b4,.ii d1,.ii b9,.ii b3,.str b8,.str c1,.str b7]:List PV)=[.ii b6,.ii a8,.ii a3,.ii a9,.ii a6,.ii a2,.str a5,.str a4,.str a7]:=N6 hA (by rfl) gG;refine gk (gy hA 2 ?_);refine⟨_,_,?_,by cbv,i+1,(A.num .add .i64 n 1),rfl,?_,rfl⟩
  ·
   omega
  exact⟨by rw[au hA (by omega) (by omega)];omega,by omega⟩
 have po:(A.ao b0)<=n:=aQ hA c9;refine aI (gE ?_);refine gx hA 1 ?_;refine rt (gt ?_);show _=(PV.bool true);rfl
def XW (p0:RR)(p1 p2 p3 p4 p5:Int)(p6:RR):St:={sl:=iB++.pt 4 0 0::.sl 3 p0::.aa::.pt 7 0 0::.ii p1::JD,bl:=[(4,⟨.var,4,[[.ii p2,.ii p2,.ii p2,.zc]]⟩),(7,⟨.var,4,[[.ii p3,.ii p4,.ii p5,.own 7003]]⟩),(7003,⟨.arr,9,p6⟩)]}
theorem Jo (A:ax)(hA:A=aj)(d:bj)(no:Int)(hd:eM d)(hc:d.Cache=[])(s:bu)(hs:JT A (dp A) (iw A) d s)(jL:no=s.No):al 168 [.agg (gf d),.ii no] (.agg (bW s)):=by
 obtain⟨a8,b4⟩:=d;obtain⟨e4,b7,f3⟩:=nr hA ah a8;obtain⟨e6,d4,g0⟩:=nr hA bn b4;refine ak (az:=[.agg [.sl 1 e4,.sl 2 e6],.ii no]) (by subst b7 d4;rfl) ?_;have iy:=hd;obtain⟨cN,dO,eV,dx,ew⟩:=hd;have cN:1<=aaK a8:=cN;have dO:aaK a8<=100:=dO;have eV:aaK b4<=60:=eV;have dx:∀ s∈a8,s.size=32:=dx;have ew:∀ w∈b4,0<=w.At/\w.At < (a8.length:Int)/\w.Text.size=32:=ew;have hc:b4=[]:=hc;obtain⟨g4,f9,e1,a2⟩:=s;have jL:no=g4:=jL;subst jL;obtain⟨s1,s2,s3,s4,s5,s6,s7⟩:=hs;have s1:0<=no:=s1;have s2:no<=10:=s2;have s3:16+no * 8<=(a8.length:Int):=s3;have s4:f9=1:=s4;subst s4;have s5:0<=e1:=s5;have s6:fU A (dp A) (iw A) (ke a8 no) (uS::eX A (dp A) a2) 0 (aaO e1):=s6;have s7:∀ x∈a2,xK A (dp A) x:=s7;have lfr:aaK (eX A (dp A) a2)=aaK a2:=aaS ..;have hle:=tX s6;have hzx:(ke a8 no).size<=32 * aaO 8:=mM dx _ _;have hzx:(ke a8 no).size<=256:=hzx;rw[aa5] at hle;refine aY Tryz.func168 ?_;refine gx hA 2 ?_;refine gs (gr (rn hA 2 ?_));obtain⟨e8,c0,d7,e7,aJ⟩:=O9 (aaN kf (eX A (dp A) a2)) ((aaO e1:Nat):Int) (DY A hA (⟨a8,b4⟩:bj) no (by assumption) hc s1 s2 s3 (eX A (dp A) a2) (aaO e1) s6);have g2:=ab hA d7;obtain⟨ti,f1⟩:=nm (ar e8:RR);have f5:ti=aaN dM (eX A (dp A) a2):=by rw[f1,d7];exact BA _
 have g6:=ab hA f5;refine lL (r':=.aw [.sl 3 ti,.ii c0]) rfl rfl (by cbv) (by subst b7 d4;rfl) aJ (.inr rfl) (by subst f1;rfl) ?_;refine rz hA 5 ?_;refine gs (gr (rn hA 3 ?_));obtain⟨e2,f0,eu⟩:=yZ (1) (zK A hA (⟨a8,b4⟩:bj) no (by assumption) hc s1 s2 s3 (eX A (dp A) a2) (aaO e1) s6);refine aH eu (.inr rfl) ?_ (hv:=by subst b7 d4;rfl);refine rz hA 4 ?_;refine gs (gx hA 1 ?_);refine af ?_;refine aF (λσ m=>∃(i:Nat) (n:Int) (R:RR),σ=(XW ti n 0 no e2 c0 R)/\(n=(i:Int)/\i<=aaK a2/\R=aaN da (aa8 i a2))/\m=aaK a2 - i) _ [.cell 7 3 7003 9,.up 7003,.up 7,.up 4,.up 2] [4,5,7,8] [4,7,7003] _ rfl (by cbv) ⟨0,0,[],rfl,?_,rfl⟩ (λσ m hI=>?_)
 ·
  exact⟨rfl,aaW _,rfl⟩
 obtain⟨i,n,R,rfl,⟨hn,hi,hR⟩,rfl⟩:=hI;refine gs (gx hA 4 ?_);refine gc (λc6=>?_) (λc6=>?_)
 ·
  have cp:n < (A.ao ti):=aP hA c6;refine gk (gs (af (gs (gr (rn hA 2 ?_)))));obtain⟨g1,g9,x7,ov,g7⟩:=ga (eX A (dp A) a2) n (by omega) (by omega);obtain⟨d5,b1,b9⟩:=x7;have g3:ti[(aaO n)]? =some [.ii d5,.ii b1,.str b9]:=by
   exact bC dM f5 ov
  have e5:=ov;rw[hn] at e5;have e5:((eX A (dp A) a2))[i]? =some (⟨d5,b1,b9⟩:aC):=e5;obtain⟨x0,vx,AP,Qt,XV,Ri⟩:=IU s7 e5;obtain⟨f8,⟨d2,b6,d6,d1,b5,d0,d3,b8⟩⟩:=x0;have AP:lJ (⟨d2,b6,d6,d1,b5,d0,d3,b8⟩:aE):=AP;have Ri:((⟨d5,b1,b9⟩:aC):aC).Seq=f8:=Ri;refine ee g1 g3 ?_;refine rn hA 1 ?_;have kA:al 231 [.agg [.ii d5,.ii b1,.str b9]] (.aw [.agg [.ii b1,.ii d2,.ii b6,.ii d6,.ii d1,.ii b5,.str d0,.str d3,.str b8],.bool true]):=by exact D0 A hA (⟨d5,b1,b9⟩:aC) (⟨d2,b6,d6,d1,b5,d0,d3,b8⟩:aE) AP Qt XV
  refine aH kA (.inr rfl) ?_;refine rz hA 6 ?_;refine gx hA 1 ?_;refine gc (λcB=>?_) (λcB=>?_)
  ·
   refine gr (rn hA 4 ?_);obtain⟨Q5,e9⟩:=nm (R++[[.ii b1,.ii d2,.ii b6,.ii d6,.ii d1,.ii b5,.str d0,.str d3,.str b8]]:RR);have f6:Q5=aaN da ((aa8 i a2)++([(⟨b1,⟨d2,b6,d6,d1,b5,d0,d3,b8⟩⟩:ae)])):=by rw[e9];exact cM hR (by rfl)
   have g8:=ab hA f6;refine ju e9 ?_ (hl:=by
    show(aaK R+aaK ([[.ii b1,.ii d2,.ii b6,.ii d6,.ii d1,.ii b5,.str d0,.str d3,.str b8]])) * _<=_;show(aaK R+1) * 96<=_;rw[hR,aaS,aa1];omega)
   refine rz hA 2 ?_;refine gy hA 3 ?_;refine⟨_,_,?_,by cbv,i+1,(A.num .add .i64 n 1),Q5,rfl,?_,rfl⟩
   ·
    omega
   refine⟨by rw[au hA (by omega) (by omega)];omega,by omega,?_⟩;rw[aa6,vx,<- Ri];exact f6
  exact cu cB (by rfl)
 have cp:(A.ao ti)<=n:=aQ hA c6;refine aI (gE ?_);refine gx hA 2 ?_;refine rt (gt ?_);show _=(PV.agg [.ii no,.ii e2,.ii c0,.ow 9 R]);simp only[hR,aaU (show aaK a2<=i by omega),d7,e7,f0];rw[Int.toNat_of_nonneg s5];rfl
def XX (p0 p1 p2 p3:Int)(p4:RR):St:={sl:=.aa::.aa::.pt 2 0 0::.pt 3 0 0::.aa::.ii p0::Ea,bl:=[(3,⟨.var,4,[[.ii p1,.ii p2,.ii p3,.sl 9 p4]]⟩),(2,⟨.var,4,[[.ii p1,.ii p2,.ii p3,.sl 9 p4]]⟩)]}
theorem Hd (A:ax)(hA:A=aj)(a:bu)(hl:a.ka.length<=1048576):al 167 [.agg (cA a),.agg (cA a)] (.bool true):=by
 obtain⟨e3,d8,e0,b3⟩:=a;obtain⟨b0,d9,f7⟩:=nr hA aW b3;refine ak (az:=[.agg [.ii e3,.ii d8,.ii e0,.sl 9 b0],.agg [.ii e3,.ii d8,.ii e0,.sl 9 b0]]) (by subst d9;rfl) ?_;have hl:aaK b3<=1048576:=hl;refine aY Tryz.func167 ?_;refine gx hA 3 ?_;refine gs (gs (gr (rn hA 6 ?_)));refine ag 11 rfl (λc1=>?_) (λc1=>?_)
 ·
  exact ay c1 (by subst hA;simp[aj])
 refine rn hA 7 ?_;refine ag 18 rfl (λc2=>?_) (λc2=>?_)
 ·
  exact ay c2 (by subst hA;simp[aj])
 refine rn hA 7 ?_;refine ag 25 rfl (λc3=>?_) (λc3=>?_)
 ·
  exact ay c3 (by subst hA;simp[aj])
 refine rz hA 8 ?_;refine gc (λc4=>?_) (λc4=>?_)
 ·
  exact ay c4 (by subst hA;simp[aj])
 refine gk (gs (gx hA 1 ?_));refine af ?_;refine aF (λσ m=>∃(i:Nat) (n:Int),σ=(XX n e3 d8 e0 b0)/\(n=(i:Int)/\i<=aaK b3)/\m=aaK b3 - i) _ [] [2,3,5] [3,2] _ rfl (by cbv) ⟨0,0,rfl,?_,rfl⟩ (λσ m hI=>?_)
 ·
  exact⟨rfl,aaW _⟩
 obtain⟨i,n,rfl,⟨hn,hi⟩,rfl⟩:=hI;refine gs (gx hA 5 ?_);refine gc (λc5=>?_) (λc5=>?_)
 ·
  have fu:n < (A.ao b0):=aP hA c5;refine gk (gs (af (gs ?_)));refine cz [0,1,2,3,4,5,6,7,8,9,10] (by cbv) ?_;refine bL hA 3 ?_;obtain⟨f4,g5,x6,IB,i0⟩:=ga b3 n (by omega) (by omega);obtain⟨b2,⟨a7,a1,a9,a3,a0,a5,a6,a4⟩⟩:=x6;have f2:b0[(aaO n)]? =some [.ii b2,.ii a7,.ii a1,.ii a9,.ii a3,.ii a0,.str a5,.str a6,.str a4]:=by
   exact bC aW d9 IB
  refine ob f4 f2 ?_;refine bL hA 4 ?_;refine ob f4 f2 ?_;refine dz hA 2 ?_;refine gc (λc7=>?_) (λc7=>?_)
  ·
   have c8:(A.sd [.ii b2,.ii a7,.ii a1,.ii a9,.ii a3,.ii a0,.str a5,.str a6,.str a4] [.ii b2,.ii a7,.ii a1,.ii a9,.ii a3,.ii a0,.str a5,.str a6,.str a4])=false:=ck hA c7;have gz:([.ii b2,.ii a7,.ii a1,.ii a9,.ii a3,.ii a0,.str a5,.str a6,.str a4]:List PV)≠[.ii b2,.ii a7,.ii a1,.ii a9,.ii a3,.ii a0,.str a5,.str a6,.str a4]:=N7 hA (by rfl) c8;exact absurd rfl gz
  have c9:(A.sd [.ii b2,.ii a7,.ii a1,.ii a9,.ii a3,.ii a0,.str a5,.str a6,.str a4] [.ii b2,.ii a7,.ii a1,.ii a9,.ii a3,.ii a0,.str a5,.str a6,.str a4])=true:=cm hA c7;have po:([.ii b2,.ii a7,.ii a1,.ii a9,.ii a3,.ii a0,.str a5,.str a6,.str a4]:List PV)=[.ii b2,.ii a7,.ii a1,.ii a9,.ii a3,.ii a0,.str a5,.str a6,.str a4]:=N6 hA (by rfl) c9;refine gk (gy hA 3 ?_);refine⟨_,_,?_,by cbv,i+1,(A.num .add .i64 n 1),rfl,?_,rfl⟩
  ·
   omega
  exact⟨by rw[au hA (by omega) (by omega)];omega,by omega⟩
 have fu:(A.ao b0)<=n:=aQ hA c5;refine aI (gE ?_);refine gx hA 1 ?_;refine rt (gt ?_);show _=(PV.bool true);rfl
theorem Xa (A:ax)(hA:A=aj)(s:bu)(qn:Int):al 176 [.agg (cA s),.rd [.ii qn]] (.bool (nD qn s)):=by
 obtain⟨e8,f5,f3,e7⟩:=s;obtain⟨e0,d9,f1⟩:=nr hA aW e7;refine ak (az:=[.agg [.ii e8,.ii f5,.ii f3,.sl 9 e0],.rd [.ii qn]]) (by subst d9;rfl) ?_;refine aY Tryz.func176 ?_;refine gx hA 2 ?_;refine gx hA 5 ?_;refine rt (gt ?_);show _=(PV.bool (A.cmp .eql e8 qn));refine congrArg PV.bool ?_;subst hA;simp[nD,aj,Bool.beq_eq_decide_eq,bP,]
def Cn (p0:RR)(p1 p2 p3:Int):St:={sl:=.sl 4 p0::.fn 176 [.rd [.ii p1]]::ql++.ii p2::.ii p3::tk,bl:=[]}
theorem GW (A:ax)(hA:A=aj)(xs:List bu)(hx:(aaK xs:Int)<=4611686018427387904)(qn:Int):al 237 [.sl 4 (aaN cA xs),.fn 176 [.rd [.ii qn]]] (.ii (vI (nD qn) xs 0)):=by
 obtain⟨b3,d1,f4⟩:=nr hA cA xs;refine ak (az:=[.sl 4 b3,.fn 176 [.rd [.ii qn]]]) (by subst d1;rfl) ?_;refine aY Tryz.func237 ?_;refine gx hA 1 ?_;refine gs (gx hA 3 ?_);refine af ?_;refine aF (λσ m=>∃(i:Nat) (n:Int),σ=(Cn b3 qn (A.ao b3) n)/\(n=(i:Int)/\i<=aaK xs/\vI (nD qn) xs 0=vI (nD qn) (xs.drop i) i)/\m=aaK xs - i) _ [] [0,1,7,8] [] _ rfl (by cbv) ⟨0,0,rfl,?_,rfl⟩ (λσ m hI=>?_)
 ·
  exact⟨rfl,aaW _,rfl⟩
 obtain⟨i,n,rfl,⟨hn,hi,hE⟩,rfl⟩:=hI;refine gx hA 1 ?_;refine gs ?_;refine gc (λc1=>?_) (λc1=>?_)
 ·
  have aV:n < (A.ao b3):=aP hA c1;refine gk (gs (af (gx hA 2 ?_)));refine gs (gr (rn hA 3 ?_));obtain⟨f6,g5,x2,cX,g4⟩:=ga xs n (by omega) (by omega);obtain⟨d2,b8,b9,b5⟩:=x2;obtain⟨d8,b7,f0⟩:=nr hA aW b5;have f9:b3[(aaO n)]? =some [.ii d2,.ii b8,.ii b9,.sl 9 d8]:=by
   subst b7;exact bC cA d1 cX
  have d3:=cX;rw[hn] at d3;have d3:(xs)[i]? =some (⟨d2,b8,b9,b5⟩:bu):=d3;refine ee f6 f9 ?_;refine rn hA 1 ?_;obtain⟨g2,e2,cL⟩:=kV (nD qn (⟨d2,b8,b9,b5⟩:bu)) (Xa A hA (⟨d2,b8,b9,b5⟩:bu) qn);refine aH cL (.inr rfl) ?_ (hv:=by subst b7;rfl);refine od ?_;refine gc (λc5=>?_) (λc5=>?_)
  ·
   refine gx hA 2 ?_;refine rt (gt ?_);refine congrArg (PV.int .i64) ?_;rw[hE,JQ d3];subst e2;simp[aV,c5,hn]
  refine gk (gy hA 2 ?_);refine⟨_,_,?_,by cbv,i+1,(A.num .add .i64 n 1),rfl,?_,rfl⟩
  ·
   omega
  refine⟨by rw[au hA (by omega) (by omega)];omega,by omega,?_⟩;rw[hE,JQ d3];subst e2;simp[aV,c5]
 have aV:(A.ao b3)<=n:=aQ hA c1;refine aI (gE ?_);refine gx hA 1 ?_;refine rt (gt ?_);refine congrArg (PV.int .i64) ?_;rw[hE];exact Qx (by omega)
theorem Co (A:ax)(hA:A=aj)(xs:List bu)(hx:(aaK xs:Int)<=4611686018427387904)(qn:Int):al 175 [.sl 4 (aaN cA xs),.fn 176 [.rd [.ii qn]]] (.bool (acw xs (nD qn))):=by
 obtain⟨b3,d1,f4⟩:=nr hA cA xs;refine ak (az:=[.sl 4 b3,.fn 176 [.rd [.ii qn]]]) (by subst d1;rfl) ?_;refine aY Tryz.func175 ?_;refine gx hA 1 ?_;refine gs (gr (rn hA 2 ?_));obtain⟨g0,f2,aJ⟩:=tb (GW A hA xs (by omega) qn);refine aH aJ (.inr rfl) ?_ (hv:=by subst d1;rfl);refine rz hA 2 ?_;refine rt (gt ?_);show _=(PV.bool (A.cmp .geq g0 0));refine congrArg PV.bool ?_;rw[f2];exact(MW hA _).symm
def Xb (p0 p1:Int)(p2 p3:RR)(p4:Int)(p5:RR)(p6 p7 p8 p9:Int)(fj:RR):St:={sl:=.aa::.pt 1 0 0::.aa::.own 5::iB++.ii p0::.ii p1::xZ,bl:=[(1,⟨.var,8,[[.sl 1 p2,.sl 2 p3,.ii p4,.sl 4 p5,.ii p6,.ii p7,.ii p8,.ii p9]]⟩),(5,⟨.arr,1,fj⟩)]}
theorem vX (A:ax)(hA:A=aj)(x:bF)(hn:aaK x.Used<=1048576):al 109 [.agg (mT x)] (.ow 1 (aaN bq (mc x.ld x.Used))):=by
 obtain⟨⟨b1,b4⟩,a2,a4,a7,a6,a8,a3⟩:=x;obtain⟨a0,a9,b6⟩:=nr hA ah b1;obtain⟨a1,b0,d0⟩:=nr hA bn b4;obtain⟨a5,b2,e4⟩:=nr hA cA a4;refine ak (az:=[.agg [.sl 1 a0,.sl 2 a1,.ii a2,.sl 4 a5,.ii a7,.ii a6,.ii a8,.ii a3]]) (by subst a9 b0 b2;rfl) ?_;have f8:(aaK a4:Int)<=1048576:=by have:aaK a4<=1048576:=hn;omega
 refine aY Tryz.func109 ?_;refine gx hA 2 ?_;refine gx hA 2 ?_;refine gs (gs (gr (rn hA 2 ?_)));obtain⟨m1,oZ⟩:=nm (min a2 11:Int);refine fk rfl (My rfl rfl rfl oZ) ?_;refine rz hA 1 ?_;refine af ?_;refine aF (λσ m=>∃(i:Nat) (n:Int) (R:RR),σ=(Xb m1 n a0 a1 a2 a5 a7 a6 a8 a3 R)/\(n=(i:Int)/\i<=aaO (min a2 11)/\R=aaN bq (kH a4 i))/\m=aaO (min a2 11) - i) _ [.up 5,.up 1] [1,3,8,9] [1,5] _ rfl (by cbv) ⟨0,0,[],rfl,?_,rfl⟩ (λσ m hI=>?_)
 ·
  exact⟨rfl,aaW _,rfl⟩
 obtain⟨i,n,R,rfl,⟨ej,hi,hR⟩,rfl⟩:=hI;refine gx hA 1 ?_;refine gs ?_;refine gc (λc2=>?_) (λc2=>?_)
 ·
  have iY:n < m1:=aP hA c2;refine gk (gs (af (gx hA 3 ?_)));refine gs (gr (rn hA 3 ?_));obtain⟨e6,e5,cL⟩:=ib (Co A hA a4 (by omega) n);refine aH cL (.inl trivial) ?_ (hv:=by subst b2;rfl);refine rz hA 1 ?_;refine gc (λc5=>?_) (λc5=>?_)
  ·
   have c6:e6=false:=ck hA c5;refine gr (rn hA 3 ?_);obtain⟨r7,kt⟩:=nm (R++[[.ii n]]:RR);have vH:r7=aaN bq ((kH a4 i)++([(n:Int)])):=by rw[kt];exact cM hR (by rfl)
   have TV:=ab hA vH;refine ju kt ?_ (hl:=by
    show(aaK R+aaK ([[.ii n]])) * _<=_;have h1:=Bn a4 i;show(aaK R+1) * 8<=_;rw[hR,aaS];omega)
   refine rz hA 1 ?_;refine gy hA 2 ?_;refine⟨_,_,?_,by cbv,i+1,(A.num .add .i64 n 1),r7,rfl,?_,rfl⟩
   ·
    omega
   have hU:acw a4 (nD (i:Int))=false:=by rw[<- ej,<- e5,c6]
   refine⟨by rw[au hA (by omega) (by omega)];omega,by omega,?_⟩;unfold kH;rw[if_neg (by rw[hU];decide)];exact by rw[<- ej];exact vH
  have c8:e6=true:=cm hA c5;refine gk (gy hA 2 ?_);refine⟨_,_,?_,by cbv,i+1,(A.num .add .i64 n 1),R,rfl,?_,rfl⟩
  ·
   omega
  have hU:acw a4 (nD (i:Int))=true:=by rw[<- ej,<- e5,c8]
  refine⟨by rw[au hA (by omega) (by omega)];omega,by omega,?_⟩;unfold kH;rw[if_pos (by rw[hU])];exact hR
 have iY:m1<=n:=aQ hA c2;refine aI (gE ?_);refine gx hA 2 ?_;refine rt (gt ?_);refine congrArg (PV.ow 1) ?_;rw[hR,show i=aaO (min a2 11) by omega];rfl
def ZA (p0:Int)(p1 p2:RR)(p3:Int)(p4:RR)(p5 p6 p7 p8:Int)(p9:RR):St:={sl:=.aa::.pt 1 0 0::.aa::.own 7::.ii p0::YH,bl:=[(1,⟨.var,8,[[.sl 1 p1,.sl 2 p2,.ii p3,.sl 4 p4,.ii p5,.ii p6,.ii p7,.ii p8]]⟩),(7,⟨.arr,1,p9⟩)]}
def ZB (p0:Int)(p1:Bool)(p2:Int)(p3:Bool)(p4 p5:RR)(p6:Int)(p7:RR)(p8 p9 fj fc:Int)(ku:RR):St:={sl:=.aa::.pt 1 0 0::.aa::.own 7::.ii p0::.bool p1::.ii p2::F3++.ii p0::.bool p3::Tk,bl:=[(1,⟨.var,8,[[.sl 1 p4,.sl 2 p5,.ii p6,.sl 4 p7,.ii p8,.ii p9,.ii fj,.ii fc]]⟩),(7,⟨.arr,1,ku⟩)]}
theorem vY (A:ax)(hA:A=aj)(x:bF)(hn:aaK x.Used<=1048576):al 83 [.agg (mT x)] (.ow 1 (aaN bq (mc x.ld x.Used))):=by
 obtain⟨⟨b1,b4⟩,a2,a4,a7,a6,a8,a3⟩:=x;obtain⟨a0,a9,b6⟩:=nr hA ah b1;obtain⟨a1,b0,d0⟩:=nr hA bn b4;obtain⟨a5,b2,e4⟩:=nr hA cA a4;refine ak (az:=[.agg [.sl 1 a0,.sl 2 a1,.ii a2,.sl 4 a5,.ii a7,.ii a6,.ii a8,.ii a3]]) (by subst a9 b0 b2;rfl) ?_;have f8:(aaK a4:Int)<=1048576:=by have:aaK a4<=1048576:=hn;omega
 refine aY Tryz.func83 ?_;refine gx hA 2 ?_;refine gx hA 2 ?_;refine gs (gx hA 1 ?_);refine af ?_;refine aF (λσ m=>∃(i:Nat) (n:Int) (R:RR),σ=(ZA n a0 a1 a2 a5 a7 a6 a8 a3 R)/\(n=(i:Int)/\i<=aaO (min a2 11)/\R=aaN bq (kH a4 i))/\m=aaO (min a2 11) - i) _ [.up 7,.up 1] [1,3,4] [1,7] _ rfl (by cbv) ⟨0,0,[],rfl,?_,rfl⟩ (λσ m hI=>?_)
 ·
  exact⟨rfl,aaW _,rfl⟩
 obtain⟨i,n,R,rfl,⟨ej,hi,hR⟩,rfl⟩:=hI;refine gs (gs (gr (rn hA 5 ?_)));refine ag 12 rfl (λc1=>?_) (λc1=>?_)
 ·
  have aV:n < a2:=aP hA c1;refine rz hA 3 ?_;refine gc (λc2=>?_) (λc2=>?_)
  ·
   have iY:n < 11:=aP hA c2;refine gk (gs (af (gx hA 1 ?_)));refine gs (gx hA 1 ?_);refine af ?_;refine aF (λσ m=>∃(j:Nat) (n2:Int) (ub:Bool),σ=(ZB n ub n2 (A.cmp .lss n 11) a0 a1 a2 a5 a7 a6 a8 a3 R)/\(n2=(j:Int)/\j<=aaK a4/\ub=acw (aa8 j a4) (nD n))/\m=aaK a4 - j) _ [.up 7,.up 1] [1,3,4,5,6,13,14] [1,7] _ rfl (by cbv) ⟨0,0,false,rfl,?_,rfl⟩ (λσ m hI=>?_)
   ·
    exact⟨rfl,aaW _,rfl⟩
   obtain⟨j,n2,ub,rfl,⟨hj,hjl,hub⟩,rfl⟩:=hI;refine gs (gx hA 5 ?_);refine gc (λc3=>?_) (λc3=>?_)
   ·
    have cI:n2 < (A.ao a5):=aP hA c3;refine gk (gs (af (gr (rn hA 2 ?_))));refine ag 26 rfl (λc4=>?_) (λc4=>?_)
    ·
     refine rz hA 10 ?_;refine gy hA 3 ?_;refine⟨_,_,?_,by cbv,j+1,(A.num .add .i64 n2 1),true,rfl,?_,rfl⟩
     ·
      omega
     have hT:acw (aa8 (j+1) a4) (nD n)=true:=by
      have hl:j < aaK a4:=by omega
      rw[Lv (List.getElem?_eq_getElem hl),<- hub,c4];rfl
     exact⟨by rw[au hA (by omega) (by omega)];omega,by omega,hT.symm⟩
    refine rn hA 3 ?_;obtain⟨g1,g6,x5,CU,g3⟩:=ga a4 n2 (by omega) (by omega);obtain⟨c0,e1,e3,d4⟩:=x5;obtain⟨d6,d5,e9⟩:=nr hA aW d4;have f7:a5[(aaO n2)]? =some [.ii c0,.ii e1,.ii e3,.sl 9 d6]:=by
     subst d5;exact bC cA b2 CU
    have d7:=CU;rw[hj] at d7;have d7:(a4)[j]? =some (⟨c0,e1,e3,d4⟩:bu):=d7;refine qf rfl rfl rfl rfl (jO rfl rfl rfl rfl rfl g1 rfl f7) ?_;refine rz hA 6 ?_;refine gy hA 3 ?_;refine⟨_,_,?_,by cbv,j+1,(A.num .add .i64 n2 1),(A.cmp .eql c0 n),rfl,?_,rfl⟩
    ·
     omega
    have hT:acw (aa8 (j+1) a4) (nD n)=(A.cmp .eql c0 n):=by
     rw[Lv d7,<- hub,c4,Bool.false_or];subst hA;simp[nD,aj,Bool.beq_eq_decide_eq,bP]
    exact⟨by rw[au hA (by omega) (by omega)];omega,by omega,hT.symm⟩
   have cI:(A.ao a5)<=n2:=aQ hA c3;refine aI (gE ?_);refine gx hA 2 ?_;refine gc (λc6=>?_) (λc6=>?_)
   ·
    have c7:ub=false:=ck hA c6;refine gr (rn hA 3 ?_);obtain⟨r8,pr⟩:=nm (R++[[.ii n]]:RR);have er8:r8=aaN bq ((kH a4 i)++([(n:Int)])):=by rw[pr];exact cM hR (by rfl)
    have lr8:=ab hA er8;refine ju pr ?_ (hl:=by
     show(aaK R+aaK ([[.ii n]])) * _<=_;have h1:=Bn a4 i;show(aaK R+1) * 8<=_;rw[hR,aaS];omega)
    refine rz hA 1 ?_;refine gy hA 3 ?_;refine⟨_,_,?_,by cbv,i+1,(A.num .add .i64 n 1),r8,rfl,?_,rfl⟩
    ·
     omega
    have hU:acw a4 (nD (i:Int))=false:=by
     have h:=hub;rw[aaU (by omega),ej] at h;rw[<- h];assumption
    refine⟨by rw[au hA (by omega) (by omega)];omega,by omega,?_⟩;unfold kH;rw[if_neg (by rw[hU];decide)];exact by rw[<- ej];exact er8
   have c9:ub=true:=cm hA c6;refine gk (gy hA 3 ?_);refine⟨_,_,?_,by cbv,i+1,(A.num .add .i64 n 1),R,rfl,?_,rfl⟩
   ·
    omega
   have hU:acw a4 (nD (i:Int))=true:=by
    have h:=hub;rw[aaU (by omega),ej] at h;rw[<- h];assumption
   refine⟨by rw[au hA (by omega) (by omega)];omega,by omega,?_⟩;unfold kH;rw[if_pos (by rw[hU])];exact hR
  have iY:11<=n:=aQ hA c2;refine aI (gE ?_);refine gx hA 2 ?_;refine rt (gt ?_);refine congrArg (PV.ow 1) ?_;rw[hR,show i=aaO (min a2 11) by omega];rfl
 have aV:a2<=n:=aQ hA c1;refine rz hA 3 ?_;refine gc (λcB=>?_) (λcB=>?_)
 ·
  exact ay cB (by rfl)
 refine aI (gE ?_);refine gx hA 2 ?_;refine rt (gt ?_);refine congrArg (PV.ow 1) ?_;rw[hR,show i=aaO (min a2 11) by omega];rfl
end Go.Av

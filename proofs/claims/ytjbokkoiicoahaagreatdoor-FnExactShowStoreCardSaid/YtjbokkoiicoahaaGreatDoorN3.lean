/- Walks: which items are needed. -/
import Derived.Test.YtjbokkoiicoahaaGreatDoorN2
namespace Go.Av
open Go Go.Proofs
set_option maxRecDepth 100000
set_option maxHeartbeats 4000000
set_option linter.unusedVariables false
set_option linter.unusedSimpArgs false
def needL (xs:List GItem)(n:Nat):List Bool:=(List.range n).map fun k=>itemsOk xs && needAt xs k
theorem needL_at (xs:List GItem)(i:Nat):needL xs (i+1)=needL xs i++[itemsOk xs && needAt xs i]:=by
 unfold needL;rw[List.range_succ,List.map_append];rfl
theorem needL_len (xs:List GItem)(i:Nat):(needL xs i).length=i:=by unfold needL;rw[List.length_map,List.length_range]
def S93_1 (p0:RR)(p1:Bool)(p2:Int)(p3:Int)(p4:RR):St:={sl:=[.sl 9 p0,.bad,.bad,.bool p1,.own 8,.bad,.bad,.bad,.bad,.bad,.ii p2,.ii p3,.bad,.bad,.bad,.bad,.bad,.bad,.bad,.bad,.bad,.bad,.bad,.bad,.bad],bl:=[(8,⟨.arr,1,p4⟩)]}
theorem r_impl_NeededAll (A:Alg)(hA:A=std)(xs:List GItem)(hz:∀ q∈zsItemS xs,q≤1048576):Real Tryz.prog 93 [.sl 9 (List.map eItem xs)] (.ow 1 (List.map eBool (needL xs (List.length xs)))):=by
 obtain⟨a0,a2⟩:=nm (xs.map eItem)
 have a8:=rlen_map hA a2
 refine real_args (args':=[.sl 9 a0]) (by subst a2;rfl) ?_
 have hx:List.length xs≤1048576:=hz _ (List.mem_cons_self ..)
 have hzI:∀ q∈zsItemS xs,(q:Int)≤4611686018427387904:=fun q hq=>by have:=hz q hq;omega
 refine real tyOk Tryz.func93 (by kernel_rfl) (afun_of rfl ?_)
 refine gx hA 1 ?_
 refine gs (gr (rn hA 1 ?_))
 obtain⟨a1,a5,hc2⟩:∃(a1:Bool),a1=(itemsOk xs)∧Real Tryz.prog 69 [.sl 9 a0] (.bool a1):=⟨_,rfl,by subst a2;exact r_impl_ItemsOk A hA xs hzI⟩
 refine cvw hc2 (.inr rfl) ?_
 refine rz hA 1 ?_
 refine gx hA 2 ?_
 refine gs (gx hA 3 ?_)
 refine go_block ?_
 refine go_loopE (fun σ m=>∃(i:Nat) (n:Int) (R:RR),σ=(S93_1 a0 a1 (A.rlen a0) n R)∧(n=(i:Int)∧i≤List.length xs∧R=List.map eBool (needL xs i))∧m=List.length xs - i) _ [.up 8] [0,3,4,10,11] [8] (S93_1 a0 a1 (A.rlen a0) 0 ([])) rfl (by cbv) ⟨0,0,[],rfl,?_,rfl⟩ (fun σ m hI=> ?_)
 ·
  exact⟨rfl,Nat.zero_le _,rfl⟩
 obtain⟨i,n,R,rfl,⟨hn,hi,hR⟩,rfl⟩:=hI
 refine gx hA 1 ?_
 refine gs ?_
 refine gc (fun c3=> ?_) (fun c3=> ?_)
 ·
  have ec3:n < (A.rlen a0):=lss_t hA c3
  refine gk (gs ?_)
  refine go_block ?_
  refine gx hA 2 ?_
  refine gr (rn hA 3 ?_)
  refine ops_split 16 rfl (fun c4=> ?_) (fun c4=> ?_)
  ·
   refine rn hA 2 ?_
   obtain⟨a3,a7,hc6⟩:∃(a3:Bool),a3=(needAt xs (Int.toNat n))∧Real Tryz.prog 130 [.sl 9 a0,.ii n] (.bool a3):=⟨_,rfl,by subst a2;exact r_impl_needed A hA xs n (by omega) (by omega) (by omega)⟩
   refine ops_callG rfl rfl rfl rfl (by cbv) (by cbv) hc6 (.inr rfl) (by cbv) ?_
   refine rn hA 2 ?_
   obtain⟨r7,hr7⟩:=nm (R++[[.bool a3]]:RR)
   have er7:r7=List.map eBool ((needL xs i)++([(a3:Bool)])):=by rw[hr7];exact app_eq hR (by rfl)
   have lr7:=rlen_map hA er7
   refine ops_step rfl rfl (app_own rfl rfl rfl rfl rfl rfl rfl rfl hr7 (by cbv) (by cbv) (by cbv) rfl (by
    show(List.length R+List.length ([[.bool a3]])) * _≤_
    show(List.length R+1) * 1≤_
    rw[hR,List.length_map,needL_len];omega) (by decide) (by decide)) ?_
   refine rz hA 1 ?_
   refine gy hA 2 ?_
   refine⟨(S93_1 a0 a1 (A.rlen a0) (A.num .add .i64 n 1) r7),List.length xs - (i+1),?_,by cbv,i+1,(A.num .add .i64 n 1),r7,rfl,?_,rfl⟩
   ·
    omega
   have hN:(itemsOk xs && needAt xs i)=a3:=by
    rw[show itemsOk xs=true from by rw[← a5,c4]]
    rw[Bool.true_and,a7,hn,Int.toNat_natCast]
   refine⟨by rw[add_i64 hA (by omega) (by omega)];omega,by omega,?_⟩
   rw[needL_at,hN]
   exact er7
  refine rn hA 5 ?_
  obtain⟨r8,hr8⟩:=nm (R++[[.bool false]]:RR)
  have er8:r8=List.map eBool ((needL xs i)++([(false:Bool)])):=by rw[hr8];exact app_eq hR (by rfl)
  have lr8:=rlen_map hA er8
  refine ops_step rfl rfl (app_own rfl rfl rfl rfl rfl rfl rfl rfl hr8 (by cbv) (by cbv) (by cbv) rfl (by
   show(List.length R+List.length ([[.bool false]])) * _≤_
   show(List.length R+1) * 1≤_
   rw[hR,List.length_map,needL_len];omega) (by decide) (by decide)) ?_
  refine rz hA 1 ?_
  refine gy hA 2 ?_
  refine⟨(S93_1 a0 a1 (A.rlen a0) (A.num .add .i64 n 1) r8),List.length xs - (i+1),?_,by cbv,i+1,(A.num .add .i64 n 1),r8,rfl,?_,rfl⟩
  ·
   omega
  have hN:(itemsOk xs && needAt xs i)=false:=by
   rw[show itemsOk xs=false from by rw[← a5,c4]]
   rfl
  refine⟨by rw[add_i64 hA (by omega) (by omega)];omega,by omega,?_⟩
  rw[needL_at,hN]
  exact er8
 have ec3:(A.rlen a0)≤n:=lss_f hA c3
 refine go_exit ⟨fun _=> ?_,fun h=>absurd rfl h⟩
 refine gx hA 2 ?_
 refine rt (gt ?_)
 refine congrArg (PV.ow 1) ?_
 rw[hR,show i=List.length xs by omega]
def S49_1 (p0:RR)(p1:Bool)(p2:Int)(p3:RR):St:={sl:=[.sl 9 p0,.bad,.bad,.bool p1,.own 8,.ii p2,.bad,.bad,.bad,.bad,.bad,.bad,.bad,.bad,.bad,.bad,.bad,.bad,.bad,.bad,.bad,.bad,.bad,.bad,.bad],bl:=[(8,⟨.arr,1,p3⟩)]}
theorem r_spec_NeededAll (A:Alg)(hA:A=std)(xs:List GItem)(hz:∀ q∈zsItemS xs,q≤1048576):Real Tryz.prog 49 [.sl 9 (List.map eItem xs)] (.ow 1 (List.map eBool (needL xs (List.length xs)))):=by
 obtain⟨a0,a2⟩:=nm (xs.map eItem)
 have a8:=rlen_map hA a2
 refine real_args (args':=[.sl 9 a0]) (by subst a2;rfl) ?_
 have hx:List.length xs≤1048576:=hz _ (List.mem_cons_self ..)
 have hzI:∀ q∈zsItemS xs,(q:Int)≤4611686018427387904:=fun q hq=>by have:=hz q hq;omega
 refine real tyOk Tryz.func49 (by kernel_rfl) (afun_of rfl ?_)
 refine gx hA 1 ?_
 refine gs (gr (rn hA 1 ?_))
 obtain⟨a1,a5,hc2⟩:∃(a1:Bool),a1=(itemsOk xs)∧Real Tryz.prog 54 [.sl 9 a0] (.bool a1):=⟨_,rfl,by subst a2;exact r_spec_ItemsOk A hA xs hzI⟩
 refine cvw hc2 (.inr rfl) ?_
 refine rz hA 1 ?_
 refine gx hA 2 ?_
 refine gs (gx hA 1 ?_)
 refine go_block ?_
 refine go_loopE (fun σ m=>∃(i:Nat) (n:Int) (R:RR),σ=(S49_1 a0 a1 n R)∧(n=(i:Int)∧i≤List.length xs∧R=List.map eBool (needL xs i))∧m=List.length xs - i) _ [.up 8] [0,3,4,5] [8] (S49_1 a0 a1 0 ([])) rfl (by cbv) ⟨0,0,[],rfl,?_,rfl⟩ (fun σ m hI=> ?_)
 ·
  exact⟨rfl,Nat.zero_le _,rfl⟩
 obtain⟨i,n,R,rfl,⟨hn,hi,hR⟩,rfl⟩:=hI
 refine gs (gx hA 4 ?_)
 refine gc (fun c3=> ?_) (fun c3=> ?_)
 ·
  have ec3:n < (A.rlen a0):=lss_t hA c3
  refine gk (gs ?_)
  refine go_block ?_
  refine gr (rn hA 3 ?_)
  refine ops_split 17 rfl (fun c4=> ?_) (fun c4=> ?_)
  ·
   refine rn hA 2 ?_
   obtain⟨a4,a6,hc6⟩:∃(a4:Bool),a4=(needAtZ xs (Int.toNat n))∧Real Tryz.prog 82 [.sl 9 a0,.ii n] (.bool a4):=⟨_,rfl,by subst a2;exact r_spec_l08Need A hA xs n (by omega) (by omega) (by omega)⟩
   refine ops_callG rfl rfl rfl rfl (by cbv) (by cbv) hc6 (.inr rfl) (by cbv) ?_
   refine rn hA 2 ?_
   obtain⟨r7,hr7⟩:=nm (R++[[.bool a4]]:RR)
   have er7:r7=List.map eBool ((needL xs i)++([(a4:Bool)])):=by rw[hr7];exact app_eq hR (by rfl)
   have lr7:=rlen_map hA er7
   refine ops_step rfl rfl (app_own rfl rfl rfl rfl rfl rfl rfl rfl hr7 (by cbv) (by cbv) (by cbv) rfl (by
    show(List.length R+List.length ([[.bool a4]])) * _≤_
    show(List.length R+1) * 1≤_
    rw[hR,List.length_map,needL_len];omega) (by decide) (by decide)) ?_
   refine rz hA 1 ?_
   refine gy hA 3 ?_
   refine⟨(S49_1 a0 a1 (A.num .add .i64 n 1) r7),List.length xs - (i+1),?_,by cbv,i+1,(A.num .add .i64 n 1),r7,rfl,?_,rfl⟩
   ·
    omega
   have hN:(itemsOk xs && needAt xs i)=a4:=by
    rw[show itemsOk xs=true from by rw[← a5,c4]]
    rw[Bool.true_and,a6,hn,Int.toNat_natCast]
    exact(needAt_same (by rw[← a5,c4]) i).symm
   refine⟨by rw[add_i64 hA (by omega) (by omega)];omega,by omega,?_⟩
   rw[needL_at,hN]
   exact er7
  refine rn hA 5 ?_
  obtain⟨r8,hr8⟩:=nm (R++[[.bool false]]:RR)
  have er8:r8=List.map eBool ((needL xs i)++([(false:Bool)])):=by rw[hr8];exact app_eq hR (by rfl)
  have lr8:=rlen_map hA er8
  refine ops_step rfl rfl (app_own rfl rfl rfl rfl rfl rfl rfl rfl hr8 (by cbv) (by cbv) (by cbv) rfl (by
   show(List.length R+List.length ([[.bool false]])) * _≤_
   show(List.length R+1) * 1≤_
   rw[hR,List.length_map,needL_len];omega) (by decide) (by decide)) ?_
  refine rz hA 1 ?_
  refine gy hA 3 ?_
  refine⟨(S49_1 a0 a1 (A.num .add .i64 n 1) r8),List.length xs - (i+1),?_,by cbv,i+1,(A.num .add .i64 n 1),r8,rfl,?_,rfl⟩
  ·
   omega
  have hN:(itemsOk xs && needAt xs i)=false:=by
   rw[show itemsOk xs=false from by rw[← a5,c4]]
   rfl
  refine⟨by rw[add_i64 hA (by omega) (by omega)];omega,by omega,?_⟩
  rw[needL_at,hN]
  exact er8
 have ec3:(A.rlen a0)≤n:=lss_f hA c3
 refine go_exit ⟨fun _=> ?_,fun h=>absurd rfl h⟩
 refine gx hA 2 ?_
 refine rt (gt ?_)
 refine congrArg (PV.ow 1) ?_
 rw[hR,show i=List.length xs by omega]
end Go.Av

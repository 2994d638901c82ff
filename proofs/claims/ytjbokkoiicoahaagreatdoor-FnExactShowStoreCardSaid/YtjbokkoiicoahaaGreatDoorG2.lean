/- Walks: flags. -/
import Derived.Test.YtjbokkoiicoahaaGreatDoorG3
namespace Go.Av
open Go Go.Proofs
set_option maxRecDepth 100000
set_option maxHeartbeats 4000000
set_option linter.unusedVariables false
set_option linter.unusedSimpArgs false
theorem r_impl_FlagWords (A:Alg)(hA:A=std)(f:Int)(hf:i64 f):Real Tryz.prog 43 [.ii f] (.str (flagW f)):=by
 refine real_args (args':=[.ii f]) (by rfl) ?_
 refine real tyOk Tryz.func43 (by kernel_rfl) (afun_of rfl ?_)
 refine gx hA 1 ?_
 refine gx hA 2 ?_
 refine gs (gx hA 2 ?_)
 refine gc (fun c1=> ?_) (fun c1=> ?_)
 ·
  have ec1:f < 0:=lss_t hA c1
  refine gr (rn hA 1 ?_)
  obtain⟨n2,hn2⟩:=nm (IntKind.wrap .i64 (0 - f):Int)
  refine ops_ext rfl (ext_neg rfl rfl hn2) ?_
  refine rz hA 1 ?_
  refine gs (gx hA 3 ?_)
  refine gc (fun c3=> ?_) (fun c3=> ?_)
  ·
   have ec3:(A.num .and .i64 n2 1)≠0:=neq_t hA c3
   refine gr (rn hA 2 ?_)
   obtain⟨r4,hr4⟩:=nm (([])++[[.str (ByteArray.mk #[115,101,101,110])]]:RR)
   have er4:r4=List.map eString (([])++([((ByteArray.mk #[115,101,101,110]):ByteArray)])):=by rw[hr4];exact app_eq rfl (by rfl)
   have lr4:=rlen_map hA er4
   refine ops_step rfl rfl (app_own rfl rfl rfl rfl rfl rfl rfl rfl hr4 (by cbv) (by cbv) (by cbv) rfl (by
    show(List.length ([])+List.length ([[.str (ByteArray.mk #[115,101,101,110])]])) * _≤_
    decide) (by decide) (by decide)) ?_
   refine rz hA 1 ?_
   refine gs (gx hA 3 ?_)
   refine gc (fun c5=> ?_) (fun c5=> ?_)
   ·
    have ec5:(A.num .and .i64 n2 2)≠0:=neq_t hA c5
    refine gr (rn hA 2 ?_)
    obtain⟨r6,hr6⟩:=nm (r4++[[.str (ByteArray.mk #[102,108,97,103,103,101,100])]]:RR)
    have er6:r6=List.map eString (([]++[((ByteArray.mk #[115,101,101,110]):ByteArray)])++([((ByteArray.mk #[102,108,97,103,103,101,100]):ByteArray)])):=by rw[hr6];exact app_eq er4 (by rfl)
    have lr6:=rlen_map hA er6
    refine ops_step rfl rfl (app_own rfl rfl rfl rfl rfl rfl rfl rfl hr6 (by cbv) (by cbv) (by cbv) rfl (by
     show(List.length r4+List.length ([[.str (ByteArray.mk #[102,108,97,103,103,101,100])]])) * _≤_
     rw[er4];decide) (by decide) (by decide)) ?_
    refine rz hA 1 ?_
    refine gs (gx hA 3 ?_)
    refine gc (fun c7=> ?_) (fun c7=> ?_)
    ·
     have ec7:(A.num .and .i64 n2 4)≠0:=neq_t hA c7
     refine gr (rn hA 2 ?_)
     obtain⟨r8,hr8⟩:=nm (r6++[[.str (ByteArray.mk #[100,101,108,101,116,101,100])]]:RR)
     have er8:r8=List.map eString (([]++[((ByteArray.mk #[115,101,101,110]):ByteArray)]++[((ByteArray.mk #[102,108,97,103,103,101,100]):ByteArray)])++([((ByteArray.mk #[100,101,108,101,116,101,100]):ByteArray)])):=by rw[hr8];exact app_eq er6 (by rfl)
     have lr8:=rlen_map hA er8
     refine ops_step rfl rfl (app_own rfl rfl rfl rfl rfl rfl rfl rfl hr8 (by cbv) (by cbv) (by cbv) rfl (by
      show(List.length r6+List.length ([[.str (ByteArray.mk #[100,101,108,101,116,101,100])]])) * _≤_
      rw[er6];decide) (by decide) (by decide)) ?_
     refine rz hA 1 ?_
     refine gs (gr (rn hA 1 ?_))
     obtain⟨b8,d9,q1⟩:∃(b8:ByteArray),b8=(joinB ([]++[((ByteArray.mk #[115,101,101,110]):ByteArray)]++[((ByteArray.mk #[102,108,97,103,103,101,100]):ByteArray)]++[((ByteArray.mk #[100,101,108,101,116,101,100]):ByteArray)]) (ByteArray.mk #[32]))∧Real Tryz.prog 41 [.sl 1 (eraseR r8),.str (ByteArray.mk #[32])] (.str b8):=⟨_,rfl,by subst er8;simp only[erR_String];exact rJoin A hA ([]++[((ByteArray.mk #[115,101,101,110]):ByteArray)]++[((ByteArray.mk #[102,108,97,103,103,101,100]):ByteArray)]++[((ByteArray.mk #[100,101,108,101,116,101,100]):ByteArray)]) (ByteArray.mk #[32]) (by decide) (by decide)⟩
     refine cvw q1 (.inl trivial) ?_
     obtain⟨s11,i3⟩:=nm ((ByteArray.mk #[40])++b8:ByteArray)
     have q5:ByteArray.size s11=ByteArray.size (ByteArray.mk #[40])+ByteArray.size b8:=by rw[i3];exact ByteArray.size_append
     have p4:ByteArray.size (ByteArray.mk #[40])+ByteArray.size b8≤140737488355328:=by
      have hj:ByteArray.size b8≤30:=by rw[d9];decide
      have e1:(ByteArray.mk #[40]).size=1:=rfl
      have e2:(ByteArray.mk #[41]).size=1:=rfl
      omega
     refine ops_step rfl rfl (str_add rfl rfl rfl i3 p4) ?_
     obtain⟨s12,f5⟩:=nm (s11++(ByteArray.mk #[41]):ByteArray)
     have u5:ByteArray.size s12=ByteArray.size s11+ByteArray.size (ByteArray.mk #[41]):=by rw[f5];exact ByteArray.size_append
     have n9:ByteArray.size s11+ByteArray.size (ByteArray.mk #[41])≤140737488355328:=by
      have hj:ByteArray.size b8≤30:=by rw[d9];decide
      have e1:(ByteArray.mk #[40]).size=1:=rfl
      have e2:(ByteArray.mk #[41]).size=1:=rfl
      omega
     refine ops_step rfl rfl (str_add rfl rfl rfl f5 n9) ?_
     refine rz hA 1 ?_
     refine rt (gt ?_)
     refine congrArg PV.str ?_
     subst hA
     have b0:bitF f 0=true:=by
      have hab:std.num .and .i64 n2 1=0↔bitF f 0=false:=and_bit 0 (by decide) hf (.inr ⟨by omega,hn2⟩)
      cases hb:bitF f 0 with
      | true=>rfl
      | false=>exact absurd (hab.2 hb) (by assumption)
     have b1:bitF f 1=true:=by
      have hab:std.num .and .i64 n2 2=0↔bitF f 1=false:=and_bit 1 (by decide) hf (.inr ⟨by omega,hn2⟩)
      cases hb:bitF f 1 with
      | true=>rfl
      | false=>exact absurd (hab.2 hb) (by assumption)
     have b2:bitF f 2=true:=by
      have hab:std.num .and .i64 n2 4=0↔bitF f 2=false:=and_bit 2 (by decide) hf (.inr ⟨by omega,hn2⟩)
      cases hb:bitF f 2 with
      | true=>rfl
      | false=>exact absurd (hab.2 hb) (by assumption)
     have hj:(joinB ([]++[((ByteArray.mk #[115,101,101,110]):ByteArray)]++[((ByteArray.mk #[102,108,97,103,103,101,100]):ByteArray)]++[((ByteArray.mk #[100,101,108,101,116,101,100]):ByteArray)]) (ByteArray.mk #[32]))=fwS f 3:=fwS_join f _ (by simp[b0,b1,b2,wdF,wdsF])
     rw[f5,i3,d9,hj];rfl
    have ec7:(A.num .and .i64 n2 4)=0:=neq_f hA c7
    refine gk (gs (gr (rn hA 1 ?_)))
    obtain⟨a0,c4,n0⟩:∃(a0:ByteArray),a0=(joinB ([]++[((ByteArray.mk #[115,101,101,110]):ByteArray)]++[((ByteArray.mk #[102,108,97,103,103,101,100]):ByteArray)]) (ByteArray.mk #[32]))∧Real Tryz.prog 41 [.sl 1 (eraseR r6),.str (ByteArray.mk #[32])] (.str a0):=⟨_,rfl,by subst er6;simp only[erR_String];exact rJoin A hA ([]++[((ByteArray.mk #[115,101,101,110]):ByteArray)]++[((ByteArray.mk #[102,108,97,103,103,101,100]):ByteArray)]) (ByteArray.mk #[32]) (by decide) (by decide)⟩
    refine cvw n0 (.inl trivial) ?_
    obtain⟨s15,e5⟩:=nm ((ByteArray.mk #[40])++a0:ByteArray)
    have t6:ByteArray.size s15=ByteArray.size (ByteArray.mk #[40])+ByteArray.size a0:=by rw[e5];exact ByteArray.size_append
    have p2:ByteArray.size (ByteArray.mk #[40])+ByteArray.size a0≤140737488355328:=by
     have hj:ByteArray.size a0≤30:=by rw[c4];decide
     have e1:(ByteArray.mk #[40]).size=1:=rfl
     have e2:(ByteArray.mk #[41]).size=1:=rfl
     omega
    refine ops_step rfl rfl (str_add rfl rfl rfl e5 p2) ?_
    obtain⟨s16,f9⟩:=nm (s15++(ByteArray.mk #[41]):ByteArray)
    have r7:ByteArray.size s16=ByteArray.size s15+ByteArray.size (ByteArray.mk #[41]):=by rw[f9];exact ByteArray.size_append
    have p9:ByteArray.size s15+ByteArray.size (ByteArray.mk #[41])≤140737488355328:=by
     have hj:ByteArray.size a0≤30:=by rw[c4];decide
     have e1:(ByteArray.mk #[40]).size=1:=rfl
     have e2:(ByteArray.mk #[41]).size=1:=rfl
     omega
    refine ops_step rfl rfl (str_add rfl rfl rfl f9 p9) ?_
    refine rz hA 1 ?_
    refine rt (gt ?_)
    refine congrArg PV.str ?_
    subst hA
    have b0:bitF f 0=true:=by
     have hab:std.num .and .i64 n2 1=0↔bitF f 0=false:=and_bit 0 (by decide) hf (.inr ⟨by omega,hn2⟩)
     cases hb:bitF f 0 with
     | true=>rfl
     | false=>exact absurd (hab.2 hb) (by assumption)
    have b1:bitF f 1=true:=by
     have hab:std.num .and .i64 n2 2=0↔bitF f 1=false:=and_bit 1 (by decide) hf (.inr ⟨by omega,hn2⟩)
     cases hb:bitF f 1 with
     | true=>rfl
     | false=>exact absurd (hab.2 hb) (by assumption)
    have b2:bitF f 2=false:=by
     have hab:std.num .and .i64 n2 4=0↔bitF f 2=false:=and_bit 2 (by decide) hf (.inr ⟨by omega,hn2⟩)
     exact hab.1 (by assumption)
    have hj:(joinB ([]++[((ByteArray.mk #[115,101,101,110]):ByteArray)]++[((ByteArray.mk #[102,108,97,103,103,101,100]):ByteArray)]) (ByteArray.mk #[32]))=fwS f 3:=fwS_join f _ (by simp[b0,b1,b2,wdF,wdsF])
    rw[f9,e5,c4,hj];rfl
   have ec5:(A.num .and .i64 n2 2)=0:=neq_f hA c5
   refine gk (gs (gx hA 3 ?_))
   refine gc (fun c17=> ?_) (fun c17=> ?_)
   ·
    have o8:(A.num .and .i64 n2 4)≠0:=neq_t hA c17
    refine gr (rn hA 2 ?_)
    obtain⟨r18,k3⟩:=nm (r4++[[.str (ByteArray.mk #[100,101,108,101,116,101,100])]]:RR)
    have i9:r18=List.map eString (([]++[((ByteArray.mk #[115,101,101,110]):ByteArray)])++([((ByteArray.mk #[100,101,108,101,116,101,100]):ByteArray)])):=by rw[k3];exact app_eq er4 (by rfl)
    have t1:=rlen_map hA i9
    refine ops_step rfl rfl (app_own rfl rfl rfl rfl rfl rfl rfl rfl k3 (by cbv) (by cbv) (by cbv) rfl (by
     show(List.length r4+List.length ([[.str (ByteArray.mk #[100,101,108,101,116,101,100])]])) * _≤_
     rw[er4];decide) (by decide) (by decide)) ?_
    refine rz hA 1 ?_
    refine gs (gr (rn hA 1 ?_))
    obtain⟨b7,b9,p1⟩:∃(b7:ByteArray),b7=(joinB ([]++[((ByteArray.mk #[115,101,101,110]):ByteArray)]++[((ByteArray.mk #[100,101,108,101,116,101,100]):ByteArray)]) (ByteArray.mk #[32]))∧Real Tryz.prog 41 [.sl 1 (eraseR r18),.str (ByteArray.mk #[32])] (.str b7):=⟨_,rfl,by subst i9;simp only[erR_String];exact rJoin A hA ([]++[((ByteArray.mk #[115,101,101,110]):ByteArray)]++[((ByteArray.mk #[100,101,108,101,116,101,100]):ByteArray)]) (ByteArray.mk #[32]) (by decide) (by decide)⟩
    refine cvw p1 (.inl trivial) ?_
    obtain⟨s21,e8⟩:=nm ((ByteArray.mk #[40])++b7:ByteArray)
    have v0:ByteArray.size s21=ByteArray.size (ByteArray.mk #[40])+ByteArray.size b7:=by rw[e8];exact ByteArray.size_append
    have l4:ByteArray.size (ByteArray.mk #[40])+ByteArray.size b7≤140737488355328:=by
     have hj:ByteArray.size b7≤30:=by rw[b9];decide
     have e1:(ByteArray.mk #[40]).size=1:=rfl
     have e2:(ByteArray.mk #[41]).size=1:=rfl
     omega
    refine ops_step rfl rfl (str_add rfl rfl rfl e8 l4) ?_
    obtain⟨s22,e9⟩:=nm (s21++(ByteArray.mk #[41]):ByteArray)
    have t5:ByteArray.size s22=ByteArray.size s21+ByteArray.size (ByteArray.mk #[41]):=by rw[e9];exact ByteArray.size_append
    have q3:ByteArray.size s21+ByteArray.size (ByteArray.mk #[41])≤140737488355328:=by
     have hj:ByteArray.size b7≤30:=by rw[b9];decide
     have e1:(ByteArray.mk #[40]).size=1:=rfl
     have e2:(ByteArray.mk #[41]).size=1:=rfl
     omega
    refine ops_step rfl rfl (str_add rfl rfl rfl e9 q3) ?_
    refine rz hA 1 ?_
    refine rt (gt ?_)
    refine congrArg PV.str ?_
    subst hA
    have b0:bitF f 0=true:=by
     have hab:std.num .and .i64 n2 1=0↔bitF f 0=false:=and_bit 0 (by decide) hf (.inr ⟨by omega,hn2⟩)
     cases hb:bitF f 0 with
     | true=>rfl
     | false=>exact absurd (hab.2 hb) (by assumption)
    have b1:bitF f 1=false:=by
     have hab:std.num .and .i64 n2 2=0↔bitF f 1=false:=and_bit 1 (by decide) hf (.inr ⟨by omega,hn2⟩)
     exact hab.1 (by assumption)
    have b2:bitF f 2=true:=by
     have hab:std.num .and .i64 n2 4=0↔bitF f 2=false:=and_bit 2 (by decide) hf (.inr ⟨by omega,hn2⟩)
     cases hb:bitF f 2 with
     | true=>rfl
     | false=>exact absurd (hab.2 hb) (by assumption)
    have hj:(joinB ([]++[((ByteArray.mk #[115,101,101,110]):ByteArray)]++[((ByteArray.mk #[100,101,108,101,116,101,100]):ByteArray)]) (ByteArray.mk #[32]))=fwS f 3:=fwS_join f _ (by simp[b0,b1,b2,wdF,wdsF])
    rw[e9,e8,b9,hj];rfl
   have o8:(A.num .and .i64 n2 4)=0:=neq_f hA c17
   refine gk (gs (gr (rn hA 1 ?_)))
   obtain⟨a9,c0,o1⟩:∃(a9:ByteArray),a9=(joinB ([]++[((ByteArray.mk #[115,101,101,110]):ByteArray)]) (ByteArray.mk #[32]))∧Real Tryz.prog 41 [.sl 1 (eraseR r4),.str (ByteArray.mk #[32])] (.str a9):=⟨_,rfl,by subst er4;simp only[erR_String];exact rJoin A hA ([]++[((ByteArray.mk #[115,101,101,110]):ByteArray)]) (ByteArray.mk #[32]) (by decide) (by decide)⟩
   refine cvw o1 (.inl trivial) ?_
   obtain⟨s25,e7⟩:=nm ((ByteArray.mk #[40])++a9:ByteArray)
   have s7:ByteArray.size s25=ByteArray.size (ByteArray.mk #[40])+ByteArray.size a9:=by rw[e7];exact ByteArray.size_append
   have l3:ByteArray.size (ByteArray.mk #[40])+ByteArray.size a9≤140737488355328:=by
    have hj:ByteArray.size a9≤30:=by rw[c0];decide
    have e1:(ByteArray.mk #[40]).size=1:=rfl
    have e2:(ByteArray.mk #[41]).size=1:=rfl
    omega
   refine ops_step rfl rfl (str_add rfl rfl rfl e7 l3) ?_
   obtain⟨s26,f4⟩:=nm (s25++(ByteArray.mk #[41]):ByteArray)
   have u6:ByteArray.size s26=ByteArray.size s25+ByteArray.size (ByteArray.mk #[41]):=by rw[f4];exact ByteArray.size_append
   have m2:ByteArray.size s25+ByteArray.size (ByteArray.mk #[41])≤140737488355328:=by
    have hj:ByteArray.size a9≤30:=by rw[c0];decide
    have e1:(ByteArray.mk #[40]).size=1:=rfl
    have e2:(ByteArray.mk #[41]).size=1:=rfl
    omega
   refine ops_step rfl rfl (str_add rfl rfl rfl f4 m2) ?_
   refine rz hA 1 ?_
   refine rt (gt ?_)
   refine congrArg PV.str ?_
   subst hA
   have b0:bitF f 0=true:=by
    have hab:std.num .and .i64 n2 1=0↔bitF f 0=false:=and_bit 0 (by decide) hf (.inr ⟨by omega,hn2⟩)
    cases hb:bitF f 0 with
    | true=>rfl
    | false=>exact absurd (hab.2 hb) (by assumption)
   have b1:bitF f 1=false:=by
    have hab:std.num .and .i64 n2 2=0↔bitF f 1=false:=and_bit 1 (by decide) hf (.inr ⟨by omega,hn2⟩)
    exact hab.1 (by assumption)
   have b2:bitF f 2=false:=by
    have hab:std.num .and .i64 n2 4=0↔bitF f 2=false:=and_bit 2 (by decide) hf (.inr ⟨by omega,hn2⟩)
    exact hab.1 (by assumption)
   have hj:(joinB ([]++[((ByteArray.mk #[115,101,101,110]):ByteArray)]) (ByteArray.mk #[32]))=fwS f 3:=fwS_join f _ (by simp[b0,b1,b2,wdF,wdsF])
   rw[f4,e7,c0,hj];rfl
  have ec3:(A.num .and .i64 n2 1)=0:=neq_f hA c3
  refine gk (gs (gx hA 3 ?_))
  refine gc (fun c27=> ?_) (fun c27=> ?_)
  ·
   have k5:(A.num .and .i64 n2 2)≠0:=neq_t hA c27
   refine gr (rn hA 2 ?_)
   obtain⟨r28,k1⟩:=nm (([])++[[.str (ByteArray.mk #[102,108,97,103,103,101,100])]]:RR)
   have e0:r28=List.map eString (([])++([((ByteArray.mk #[102,108,97,103,103,101,100]):ByteArray)])):=by rw[k1];exact app_eq rfl (by rfl)
   have q8:=rlen_map hA e0
   refine ops_step rfl rfl (app_own rfl rfl rfl rfl rfl rfl rfl rfl k1 (by cbv) (by cbv) (by cbv) rfl (by
    show(List.length ([])+List.length ([[.str (ByteArray.mk #[102,108,97,103,103,101,100])]])) * _≤_
    decide) (by decide) (by decide)) ?_
   refine rz hA 1 ?_
   refine gs (gx hA 3 ?_)
   refine gc (fun c29=> ?_) (fun c29=> ?_)
   ·
    have m8:(A.num .and .i64 n2 4)≠0:=neq_t hA c29
    refine gr (rn hA 2 ?_)
    obtain⟨r30,k4⟩:=nm (r28++[[.str (ByteArray.mk #[100,101,108,101,116,101,100])]]:RR)
    have k2:r30=List.map eString (([]++[((ByteArray.mk #[102,108,97,103,103,101,100]):ByteArray)])++([((ByteArray.mk #[100,101,108,101,116,101,100]):ByteArray)])):=by rw[k4];exact app_eq e0 (by rfl)
    have r0:=rlen_map hA k2
    refine ops_step rfl rfl (app_own rfl rfl rfl rfl rfl rfl rfl rfl k4 (by cbv) (by cbv) (by cbv) rfl (by
     show(List.length r28+List.length ([[.str (ByteArray.mk #[100,101,108,101,116,101,100])]])) * _≤_
     rw[e0];decide) (by decide) (by decide)) ?_
    refine rz hA 1 ?_
    refine gs (gr (rn hA 1 ?_))
    obtain⟨b3,c9,l8⟩:∃(b3:ByteArray),b3=(joinB ([]++[((ByteArray.mk #[102,108,97,103,103,101,100]):ByteArray)]++[((ByteArray.mk #[100,101,108,101,116,101,100]):ByteArray)]) (ByteArray.mk #[32]))∧Real Tryz.prog 41 [.sl 1 (eraseR r30),.str (ByteArray.mk #[32])] (.str b3):=⟨_,rfl,by subst k2;simp only[erR_String];exact rJoin A hA ([]++[((ByteArray.mk #[102,108,97,103,103,101,100]):ByteArray)]++[((ByteArray.mk #[100,101,108,101,116,101,100]):ByteArray)]) (ByteArray.mk #[32]) (by decide) (by decide)⟩
    refine cvw l8 (.inl trivial) ?_
    obtain⟨s33,e6⟩:=nm ((ByteArray.mk #[40])++b3:ByteArray)
    have r3:ByteArray.size s33=ByteArray.size (ByteArray.mk #[40])+ByteArray.size b3:=by rw[e6];exact ByteArray.size_append
    have k6:ByteArray.size (ByteArray.mk #[40])+ByteArray.size b3≤140737488355328:=by
     have hj:ByteArray.size b3≤30:=by rw[c9];decide
     have e1:(ByteArray.mk #[40]).size=1:=rfl
     have e2:(ByteArray.mk #[41]).size=1:=rfl
     omega
    refine ops_step rfl rfl (str_add rfl rfl rfl e6 k6) ?_
    obtain⟨s34,f0⟩:=nm (s33++(ByteArray.mk #[41]):ByteArray)
    have u4:ByteArray.size s34=ByteArray.size s33+ByteArray.size (ByteArray.mk #[41]):=by rw[f0];exact ByteArray.size_append
    have m3:ByteArray.size s33+ByteArray.size (ByteArray.mk #[41])≤140737488355328:=by
     have hj:ByteArray.size b3≤30:=by rw[c9];decide
     have e1:(ByteArray.mk #[40]).size=1:=rfl
     have e2:(ByteArray.mk #[41]).size=1:=rfl
     omega
    refine ops_step rfl rfl (str_add rfl rfl rfl f0 m3) ?_
    refine rz hA 1 ?_
    refine rt (gt ?_)
    refine congrArg PV.str ?_
    subst hA
    have b0:bitF f 0=false:=by
     have hab:std.num .and .i64 n2 1=0↔bitF f 0=false:=and_bit 0 (by decide) hf (.inr ⟨by omega,hn2⟩)
     exact hab.1 (by assumption)
    have b1:bitF f 1=true:=by
     have hab:std.num .and .i64 n2 2=0↔bitF f 1=false:=and_bit 1 (by decide) hf (.inr ⟨by omega,hn2⟩)
     cases hb:bitF f 1 with
     | true=>rfl
     | false=>exact absurd (hab.2 hb) (by assumption)
    have b2:bitF f 2=true:=by
     have hab:std.num .and .i64 n2 4=0↔bitF f 2=false:=and_bit 2 (by decide) hf (.inr ⟨by omega,hn2⟩)
     cases hb:bitF f 2 with
     | true=>rfl
     | false=>exact absurd (hab.2 hb) (by assumption)
    have hj:(joinB ([]++[((ByteArray.mk #[102,108,97,103,103,101,100]):ByteArray)]++[((ByteArray.mk #[100,101,108,101,116,101,100]):ByteArray)]) (ByteArray.mk #[32]))=fwS f 3:=fwS_join f _ (by simp[b0,b1,b2,wdF,wdsF])
    rw[f0,e6,c9,hj];rfl
   have m8:(A.num .and .i64 n2 4)=0:=neq_f hA c29
   refine gk (gs (gr (rn hA 1 ?_)))
   obtain⟨b5,c2,q4⟩:∃(b5:ByteArray),b5=(joinB ([]++[((ByteArray.mk #[102,108,97,103,103,101,100]):ByteArray)]) (ByteArray.mk #[32]))∧Real Tryz.prog 41 [.sl 1 (eraseR r28),.str (ByteArray.mk #[32])] (.str b5):=⟨_,rfl,by subst e0;simp only[erR_String];exact rJoin A hA ([]++[((ByteArray.mk #[102,108,97,103,103,101,100]):ByteArray)]) (ByteArray.mk #[32]) (by decide) (by decide)⟩
   refine cvw q4 (.inl trivial) ?_
   obtain⟨s37,g8⟩:=nm ((ByteArray.mk #[40])++b5:ByteArray)
   have u1:ByteArray.size s37=ByteArray.size (ByteArray.mk #[40])+ByteArray.size b5:=by rw[g8];exact ByteArray.size_append
   have m6:ByteArray.size (ByteArray.mk #[40])+ByteArray.size b5≤140737488355328:=by
    have hj:ByteArray.size b5≤30:=by rw[c2];decide
    have e1:(ByteArray.mk #[40]).size=1:=rfl
    have e2:(ByteArray.mk #[41]).size=1:=rfl
    omega
   refine ops_step rfl rfl (str_add rfl rfl rfl g8 m6) ?_
   obtain⟨s38,f7⟩:=nm (s37++(ByteArray.mk #[41]):ByteArray)
   have t9:ByteArray.size s38=ByteArray.size s37+ByteArray.size (ByteArray.mk #[41]):=by rw[f7];exact ByteArray.size_append
   have m0:ByteArray.size s37+ByteArray.size (ByteArray.mk #[41])≤140737488355328:=by
    have hj:ByteArray.size b5≤30:=by rw[c2];decide
    have e1:(ByteArray.mk #[40]).size=1:=rfl
    have e2:(ByteArray.mk #[41]).size=1:=rfl
    omega
   refine ops_step rfl rfl (str_add rfl rfl rfl f7 m0) ?_
   refine rz hA 1 ?_
   refine rt (gt ?_)
   refine congrArg PV.str ?_
   subst hA
   have b0:bitF f 0=false:=by
    have hab:std.num .and .i64 n2 1=0↔bitF f 0=false:=and_bit 0 (by decide) hf (.inr ⟨by omega,hn2⟩)
    exact hab.1 (by assumption)
   have b1:bitF f 1=true:=by
    have hab:std.num .and .i64 n2 2=0↔bitF f 1=false:=and_bit 1 (by decide) hf (.inr ⟨by omega,hn2⟩)
    cases hb:bitF f 1 with
    | true=>rfl
    | false=>exact absurd (hab.2 hb) (by assumption)
   have b2:bitF f 2=false:=by
    have hab:std.num .and .i64 n2 4=0↔bitF f 2=false:=and_bit 2 (by decide) hf (.inr ⟨by omega,hn2⟩)
    exact hab.1 (by assumption)
   have hj:(joinB ([]++[((ByteArray.mk #[102,108,97,103,103,101,100]):ByteArray)]) (ByteArray.mk #[32]))=fwS f 3:=fwS_join f _ (by simp[b0,b1,b2,wdF,wdsF])
   rw[f7,g8,c2,hj];rfl
  have k5:(A.num .and .i64 n2 2)=0:=neq_f hA c27
  refine gk (gs (gx hA 3 ?_))
  refine gc (fun c39=> ?_) (fun c39=> ?_)
  ·
   have l5:(A.num .and .i64 n2 4)≠0:=neq_t hA c39
   refine gr (rn hA 2 ?_)
   obtain⟨r40,j0⟩:=nm (([])++[[.str (ByteArray.mk #[100,101,108,101,116,101,100])]]:RR)
   have j3:r40=List.map eString (([])++([((ByteArray.mk #[100,101,108,101,116,101,100]):ByteArray)])):=by rw[j0];exact app_eq rfl (by rfl)
   have t4:=rlen_map hA j3
   refine ops_step rfl rfl (app_own rfl rfl rfl rfl rfl rfl rfl rfl j0 (by cbv) (by cbv) (by cbv) rfl (by
    show(List.length ([])+List.length ([[.str (ByteArray.mk #[100,101,108,101,116,101,100])]])) * _≤_
    decide) (by decide) (by decide)) ?_
   refine rz hA 1 ?_
   refine gs (gr (rn hA 1 ?_))
   obtain⟨a3,d2,n1⟩:∃(a3:ByteArray),a3=(joinB ([]++[((ByteArray.mk #[100,101,108,101,116,101,100]):ByteArray)]) (ByteArray.mk #[32]))∧Real Tryz.prog 41 [.sl 1 (eraseR r40),.str (ByteArray.mk #[32])] (.str a3):=⟨_,rfl,by subst j3;simp only[erR_String];exact rJoin A hA ([]++[((ByteArray.mk #[100,101,108,101,116,101,100]):ByteArray)]) (ByteArray.mk #[32]) (by decide) (by decide)⟩
   refine cvw n1 (.inl trivial) ?_
   obtain⟨s43,i6⟩:=nm ((ByteArray.mk #[40])++a3:ByteArray)
   have s0:ByteArray.size s43=ByteArray.size (ByteArray.mk #[40])+ByteArray.size a3:=by rw[i6];exact ByteArray.size_append
   have o3:ByteArray.size (ByteArray.mk #[40])+ByteArray.size a3≤140737488355328:=by
    have hj:ByteArray.size a3≤30:=by rw[d2];decide
    have e1:(ByteArray.mk #[40]).size=1:=rfl
    have e2:(ByteArray.mk #[41]).size=1:=rfl
    omega
   refine ops_step rfl rfl (str_add rfl rfl rfl i6 o3) ?_
   obtain⟨s44,f3⟩:=nm (s43++(ByteArray.mk #[41]):ByteArray)
   have u9:ByteArray.size s44=ByteArray.size s43+ByteArray.size (ByteArray.mk #[41]):=by rw[f3];exact ByteArray.size_append
   have n6:ByteArray.size s43+ByteArray.size (ByteArray.mk #[41])≤140737488355328:=by
    have hj:ByteArray.size a3≤30:=by rw[d2];decide
    have e1:(ByteArray.mk #[40]).size=1:=rfl
    have e2:(ByteArray.mk #[41]).size=1:=rfl
    omega
   refine ops_step rfl rfl (str_add rfl rfl rfl f3 n6) ?_
   refine rz hA 1 ?_
   refine rt (gt ?_)
   refine congrArg PV.str ?_
   subst hA
   have b0:bitF f 0=false:=by
    have hab:std.num .and .i64 n2 1=0↔bitF f 0=false:=and_bit 0 (by decide) hf (.inr ⟨by omega,hn2⟩)
    exact hab.1 (by assumption)
   have b1:bitF f 1=false:=by
    have hab:std.num .and .i64 n2 2=0↔bitF f 1=false:=and_bit 1 (by decide) hf (.inr ⟨by omega,hn2⟩)
    exact hab.1 (by assumption)
   have b2:bitF f 2=true:=by
    have hab:std.num .and .i64 n2 4=0↔bitF f 2=false:=and_bit 2 (by decide) hf (.inr ⟨by omega,hn2⟩)
    cases hb:bitF f 2 with
    | true=>rfl
    | false=>exact absurd (hab.2 hb) (by assumption)
   have hj:(joinB ([]++[((ByteArray.mk #[100,101,108,101,116,101,100]):ByteArray)]) (ByteArray.mk #[32]))=fwS f 3:=fwS_join f _ (by simp[b0,b1,b2,wdF,wdsF])
   rw[f3,i6,d2,hj];rfl
  have l5:(A.num .and .i64 n2 4)=0:=neq_f hA c39
  refine gk (gs (gr (rn hA 1 ?_)))
  obtain⟨a7,d1,n4⟩:∃(a7:ByteArray),a7=(joinB ([]) (ByteArray.mk #[32]))∧Real Tryz.prog 41 [.sl 1 (eraseR []),.str (ByteArray.mk #[32])] (.str a7):=⟨_,rfl,by exact rJoin A hA ([]) (ByteArray.mk #[32]) (by decide) (by decide)⟩
  refine cvw n4 (.inl trivial) ?_
  obtain⟨s47,i0⟩:=nm ((ByteArray.mk #[40])++a7:ByteArray)
  have t0:ByteArray.size s47=ByteArray.size (ByteArray.mk #[40])+ByteArray.size a7:=by rw[i0];exact ByteArray.size_append
  have o9:ByteArray.size (ByteArray.mk #[40])+ByteArray.size a7≤140737488355328:=by
   have hj:ByteArray.size a7≤30:=by rw[d1];decide
   have e1:(ByteArray.mk #[40]).size=1:=rfl
   have e2:(ByteArray.mk #[41]).size=1:=rfl
   omega
  refine ops_step rfl rfl (str_add rfl rfl rfl i0 o9) ?_
  obtain⟨s48,g7⟩:=nm (s47++(ByteArray.mk #[41]):ByteArray)
  have t2:ByteArray.size s48=ByteArray.size s47+ByteArray.size (ByteArray.mk #[41]):=by rw[g7];exact ByteArray.size_append
  have m5:ByteArray.size s47+ByteArray.size (ByteArray.mk #[41])≤140737488355328:=by
   have hj:ByteArray.size a7≤30:=by rw[d1];decide
   have e1:(ByteArray.mk #[40]).size=1:=rfl
   have e2:(ByteArray.mk #[41]).size=1:=rfl
   omega
  refine ops_step rfl rfl (str_add rfl rfl rfl g7 m5) ?_
  refine rz hA 1 ?_
  refine rt (gt ?_)
  refine congrArg PV.str ?_
  subst hA
  have b0:bitF f 0=false:=by
   have hab:std.num .and .i64 n2 1=0↔bitF f 0=false:=and_bit 0 (by decide) hf (.inr ⟨by omega,hn2⟩)
   exact hab.1 (by assumption)
  have b1:bitF f 1=false:=by
   have hab:std.num .and .i64 n2 2=0↔bitF f 1=false:=and_bit 1 (by decide) hf (.inr ⟨by omega,hn2⟩)
   exact hab.1 (by assumption)
  have b2:bitF f 2=false:=by
   have hab:std.num .and .i64 n2 4=0↔bitF f 2=false:=and_bit 2 (by decide) hf (.inr ⟨by omega,hn2⟩)
   exact hab.1 (by assumption)
  have hj:(joinB ([]) (ByteArray.mk #[32]))=fwS f 3:=fwS_join f _ (by simp[b0,b1,b2,wdF,wdsF])
  rw[g7,i0,d1,hj];rfl
 have ec1:0≤f:=lss_f hA c1
 refine gk (gs (gx hA 3 ?_))
 refine gc (fun c49=> ?_) (fun c49=> ?_)
 ·
  have q2:(A.num .and .i64 f 1)≠0:=neq_t hA c49
  refine gr (rn hA 2 ?_)
  obtain⟨r50,j2⟩:=nm (([])++[[.str (ByteArray.mk #[115,101,101,110])]]:RR)
  have d7:r50=List.map eString (([])++([((ByteArray.mk #[115,101,101,110]):ByteArray)])):=by rw[j2];exact app_eq rfl (by rfl)
  have t3:=rlen_map hA d7
  refine ops_step rfl rfl (app_own rfl rfl rfl rfl rfl rfl rfl rfl j2 (by cbv) (by cbv) (by cbv) rfl (by
   show(List.length ([])+List.length ([[.str (ByteArray.mk #[115,101,101,110])]])) * _≤_
   decide) (by decide) (by decide)) ?_
  refine rz hA 1 ?_
  refine gs (gx hA 3 ?_)
  refine gc (fun c51=> ?_) (fun c51=> ?_)
  ·
   have p7:(A.num .and .i64 f 2)≠0:=neq_t hA c51
   refine gr (rn hA 2 ?_)
   obtain⟨r52,j5⟩:=nm (r50++[[.str (ByteArray.mk #[102,108,97,103,103,101,100])]]:RR)
   have e4:r52=List.map eString (([]++[((ByteArray.mk #[115,101,101,110]):ByteArray)])++([((ByteArray.mk #[102,108,97,103,103,101,100]):ByteArray)])):=by rw[j5];exact app_eq d7 (by rfl)
   have r2:=rlen_map hA e4
   refine ops_step rfl rfl (app_own rfl rfl rfl rfl rfl rfl rfl rfl j5 (by cbv) (by cbv) (by cbv) rfl (by
    show(List.length r50+List.length ([[.str (ByteArray.mk #[102,108,97,103,103,101,100])]])) * _≤_
    rw[d7];decide) (by decide) (by decide)) ?_
   refine rz hA 1 ?_
   refine gs (gx hA 3 ?_)
   refine gc (fun c53=> ?_) (fun c53=> ?_)
   ·
    have o4:(A.num .and .i64 f 4)≠0:=neq_t hA c53
    refine gr (rn hA 2 ?_)
    obtain⟨r54,k0⟩:=nm (r52++[[.str (ByteArray.mk #[100,101,108,101,116,101,100])]]:RR)
    have j6:r54=List.map eString (([]++[((ByteArray.mk #[115,101,101,110]):ByteArray)]++[((ByteArray.mk #[102,108,97,103,103,101,100]):ByteArray)])++([((ByteArray.mk #[100,101,108,101,116,101,100]):ByteArray)])):=by rw[k0];exact app_eq e4 (by rfl)
    have s4:=rlen_map hA j6
    refine ops_step rfl rfl (app_own rfl rfl rfl rfl rfl rfl rfl rfl k0 (by cbv) (by cbv) (by cbv) rfl (by
     show(List.length r52+List.length ([[.str (ByteArray.mk #[100,101,108,101,116,101,100])]])) * _≤_
     rw[e4];decide) (by decide) (by decide)) ?_
    refine rz hA 1 ?_
    refine gs (gr (rn hA 1 ?_))
    obtain⟨a6,d5,o6⟩:∃(a6:ByteArray),a6=(joinB ([]++[((ByteArray.mk #[115,101,101,110]):ByteArray)]++[((ByteArray.mk #[102,108,97,103,103,101,100]):ByteArray)]++[((ByteArray.mk #[100,101,108,101,116,101,100]):ByteArray)]) (ByteArray.mk #[32]))∧Real Tryz.prog 41 [.sl 1 (eraseR r54),.str (ByteArray.mk #[32])] (.str a6):=⟨_,rfl,by subst j6;simp only[erR_String];exact rJoin A hA ([]++[((ByteArray.mk #[115,101,101,110]):ByteArray)]++[((ByteArray.mk #[102,108,97,103,103,101,100]):ByteArray)]++[((ByteArray.mk #[100,101,108,101,116,101,100]):ByteArray)]) (ByteArray.mk #[32]) (by decide) (by decide)⟩
    refine cvw o6 (.inl trivial) ?_
    obtain⟨s57,i1⟩:=nm ((ByteArray.mk #[40])++a6:ByteArray)
    have r1:ByteArray.size s57=ByteArray.size (ByteArray.mk #[40])+ByteArray.size a6:=by rw[i1];exact ByteArray.size_append
    have p0:ByteArray.size (ByteArray.mk #[40])+ByteArray.size a6≤140737488355328:=by
     have hj:ByteArray.size a6≤30:=by rw[d5];decide
     have e1:(ByteArray.mk #[40]).size=1:=rfl
     have e2:(ByteArray.mk #[41]).size=1:=rfl
     omega
    refine ops_step rfl rfl (str_add rfl rfl rfl i1 p0) ?_
    obtain⟨s58,g6⟩:=nm (s57++(ByteArray.mk #[41]):ByteArray)
    have s5:ByteArray.size s58=ByteArray.size s57+ByteArray.size (ByteArray.mk #[41]):=by rw[g6];exact ByteArray.size_append
    have m1:ByteArray.size s57+ByteArray.size (ByteArray.mk #[41])≤140737488355328:=by
     have hj:ByteArray.size a6≤30:=by rw[d5];decide
     have e1:(ByteArray.mk #[40]).size=1:=rfl
     have e2:(ByteArray.mk #[41]).size=1:=rfl
     omega
    refine ops_step rfl rfl (str_add rfl rfl rfl g6 m1) ?_
    refine rz hA 1 ?_
    refine rt (gt ?_)
    refine congrArg PV.str ?_
    subst hA
    have b0:bitF f 0=true:=by
     have hab:std.num .and .i64 f 1=0↔bitF f 0=false:=and_bit 0 (by decide) hf (.inl ⟨by omega,rfl⟩)
     cases hb:bitF f 0 with
     | true=>rfl
     | false=>exact absurd (hab.2 hb) (by assumption)
    have b1:bitF f 1=true:=by
     have hab:std.num .and .i64 f 2=0↔bitF f 1=false:=and_bit 1 (by decide) hf (.inl ⟨by omega,rfl⟩)
     cases hb:bitF f 1 with
     | true=>rfl
     | false=>exact absurd (hab.2 hb) (by assumption)
    have b2:bitF f 2=true:=by
     have hab:std.num .and .i64 f 4=0↔bitF f 2=false:=and_bit 2 (by decide) hf (.inl ⟨by omega,rfl⟩)
     cases hb:bitF f 2 with
     | true=>rfl
     | false=>exact absurd (hab.2 hb) (by assumption)
    have hj:(joinB ([]++[((ByteArray.mk #[115,101,101,110]):ByteArray)]++[((ByteArray.mk #[102,108,97,103,103,101,100]):ByteArray)]++[((ByteArray.mk #[100,101,108,101,116,101,100]):ByteArray)]) (ByteArray.mk #[32]))=fwS f 3:=fwS_join f _ (by simp[b0,b1,b2,wdF,wdsF])
    rw[g6,i1,d5,hj];rfl
   have o4:(A.num .and .i64 f 4)=0:=neq_f hA c53
   refine gk (gs (gr (rn hA 1 ?_)))
   obtain⟨a2,d6,l0⟩:∃(a2:ByteArray),a2=(joinB ([]++[((ByteArray.mk #[115,101,101,110]):ByteArray)]++[((ByteArray.mk #[102,108,97,103,103,101,100]):ByteArray)]) (ByteArray.mk #[32]))∧Real Tryz.prog 41 [.sl 1 (eraseR r52),.str (ByteArray.mk #[32])] (.str a2):=⟨_,rfl,by subst e4;simp only[erR_String];exact rJoin A hA ([]++[((ByteArray.mk #[115,101,101,110]):ByteArray)]++[((ByteArray.mk #[102,108,97,103,103,101,100]):ByteArray)]) (ByteArray.mk #[32]) (by decide) (by decide)⟩
   refine cvw l0 (.inl trivial) ?_
   obtain⟨s61,g0⟩:=nm ((ByteArray.mk #[40])++a2:ByteArray)
   have s3:ByteArray.size s61=ByteArray.size (ByteArray.mk #[40])+ByteArray.size a2:=by rw[g0];exact ByteArray.size_append
   have l9:ByteArray.size (ByteArray.mk #[40])+ByteArray.size a2≤140737488355328:=by
    have hj:ByteArray.size a2≤30:=by rw[d6];decide
    have e1:(ByteArray.mk #[40]).size=1:=rfl
    have e2:(ByteArray.mk #[41]).size=1:=rfl
    omega
   refine ops_step rfl rfl (str_add rfl rfl rfl g0 l9) ?_
   obtain⟨s62,f8⟩:=nm (s61++(ByteArray.mk #[41]):ByteArray)
   have u0:ByteArray.size s62=ByteArray.size s61+ByteArray.size (ByteArray.mk #[41]):=by rw[f8];exact ByteArray.size_append
   have o0:ByteArray.size s61+ByteArray.size (ByteArray.mk #[41])≤140737488355328:=by
    have hj:ByteArray.size a2≤30:=by rw[d6];decide
    have e1:(ByteArray.mk #[40]).size=1:=rfl
    have e2:(ByteArray.mk #[41]).size=1:=rfl
    omega
   refine ops_step rfl rfl (str_add rfl rfl rfl f8 o0) ?_
   refine rz hA 1 ?_
   refine rt (gt ?_)
   refine congrArg PV.str ?_
   subst hA
   have b0:bitF f 0=true:=by
    have hab:std.num .and .i64 f 1=0↔bitF f 0=false:=and_bit 0 (by decide) hf (.inl ⟨by omega,rfl⟩)
    cases hb:bitF f 0 with
    | true=>rfl
    | false=>exact absurd (hab.2 hb) (by assumption)
   have b1:bitF f 1=true:=by
    have hab:std.num .and .i64 f 2=0↔bitF f 1=false:=and_bit 1 (by decide) hf (.inl ⟨by omega,rfl⟩)
    cases hb:bitF f 1 with
    | true=>rfl
    | false=>exact absurd (hab.2 hb) (by assumption)
   have b2:bitF f 2=false:=by
    have hab:std.num .and .i64 f 4=0↔bitF f 2=false:=and_bit 2 (by decide) hf (.inl ⟨by omega,rfl⟩)
    exact hab.1 (by assumption)
   have hj:(joinB ([]++[((ByteArray.mk #[115,101,101,110]):ByteArray)]++[((ByteArray.mk #[102,108,97,103,103,101,100]):ByteArray)]) (ByteArray.mk #[32]))=fwS f 3:=fwS_join f _ (by simp[b0,b1,b2,wdF,wdsF])
   rw[f8,g0,d6,hj];rfl
  have p7:(A.num .and .i64 f 2)=0:=neq_f hA c51
  refine gk (gs (gx hA 3 ?_))
  refine gc (fun c63=> ?_) (fun c63=> ?_)
  ·
   have p8:(A.num .and .i64 f 4)≠0:=neq_t hA c63
   refine gr (rn hA 2 ?_)
   obtain⟨r64,j8⟩:=nm (r50++[[.str (ByteArray.mk #[100,101,108,101,116,101,100])]]:RR)
   have j4:r64=List.map eString (([]++[((ByteArray.mk #[115,101,101,110]):ByteArray)])++([((ByteArray.mk #[100,101,108,101,116,101,100]):ByteArray)])):=by rw[j8];exact app_eq d7 (by rfl)
   have u3:=rlen_map hA j4
   refine ops_step rfl rfl (app_own rfl rfl rfl rfl rfl rfl rfl rfl j8 (by cbv) (by cbv) (by cbv) rfl (by
    show(List.length r50+List.length ([[.str (ByteArray.mk #[100,101,108,101,116,101,100])]])) * _≤_
    rw[d7];decide) (by decide) (by decide)) ?_
   refine rz hA 1 ?_
   refine gs (gr (rn hA 1 ?_))
   obtain⟨b6,d3,o2⟩:∃(b6:ByteArray),b6=(joinB ([]++[((ByteArray.mk #[115,101,101,110]):ByteArray)]++[((ByteArray.mk #[100,101,108,101,116,101,100]):ByteArray)]) (ByteArray.mk #[32]))∧Real Tryz.prog 41 [.sl 1 (eraseR r64),.str (ByteArray.mk #[32])] (.str b6):=⟨_,rfl,by subst j4;simp only[erR_String];exact rJoin A hA ([]++[((ByteArray.mk #[115,101,101,110]):ByteArray)]++[((ByteArray.mk #[100,101,108,101,116,101,100]):ByteArray)]) (ByteArray.mk #[32]) (by decide) (by decide)⟩
   refine cvw o2 (.inl trivial) ?_
   obtain⟨s67,i4⟩:=nm ((ByteArray.mk #[40])++b6:ByteArray)
   have u7:ByteArray.size s67=ByteArray.size (ByteArray.mk #[40])+ByteArray.size b6:=by rw[i4];exact ByteArray.size_append
   have l6:ByteArray.size (ByteArray.mk #[40])+ByteArray.size b6≤140737488355328:=by
    have hj:ByteArray.size b6≤30:=by rw[d3];decide
    have e1:(ByteArray.mk #[40]).size=1:=rfl
    have e2:(ByteArray.mk #[41]).size=1:=rfl
    omega
   refine ops_step rfl rfl (str_add rfl rfl rfl i4 l6) ?_
   obtain⟨s68,i2⟩:=nm (s67++(ByteArray.mk #[41]):ByteArray)
   have s6:ByteArray.size s68=ByteArray.size s67+ByteArray.size (ByteArray.mk #[41]):=by rw[i2];exact ByteArray.size_append
   have k7:ByteArray.size s67+ByteArray.size (ByteArray.mk #[41])≤140737488355328:=by
    have hj:ByteArray.size b6≤30:=by rw[d3];decide
    have e1:(ByteArray.mk #[40]).size=1:=rfl
    have e2:(ByteArray.mk #[41]).size=1:=rfl
    omega
   refine ops_step rfl rfl (str_add rfl rfl rfl i2 k7) ?_
   refine rz hA 1 ?_
   refine rt (gt ?_)
   refine congrArg PV.str ?_
   subst hA
   have b0:bitF f 0=true:=by
    have hab:std.num .and .i64 f 1=0↔bitF f 0=false:=and_bit 0 (by decide) hf (.inl ⟨by omega,rfl⟩)
    cases hb:bitF f 0 with
    | true=>rfl
    | false=>exact absurd (hab.2 hb) (by assumption)
   have b1:bitF f 1=false:=by
    have hab:std.num .and .i64 f 2=0↔bitF f 1=false:=and_bit 1 (by decide) hf (.inl ⟨by omega,rfl⟩)
    exact hab.1 (by assumption)
   have b2:bitF f 2=true:=by
    have hab:std.num .and .i64 f 4=0↔bitF f 2=false:=and_bit 2 (by decide) hf (.inl ⟨by omega,rfl⟩)
    cases hb:bitF f 2 with
    | true=>rfl
    | false=>exact absurd (hab.2 hb) (by assumption)
   have hj:(joinB ([]++[((ByteArray.mk #[115,101,101,110]):ByteArray)]++[((ByteArray.mk #[100,101,108,101,116,101,100]):ByteArray)]) (ByteArray.mk #[32]))=fwS f 3:=fwS_join f _ (by simp[b0,b1,b2,wdF,wdsF])
   rw[i2,i4,d3,hj];rfl
  have p8:(A.num .and .i64 f 4)=0:=neq_f hA c63
  refine gk (gs (gr (rn hA 1 ?_)))
  obtain⟨a4,c8,q0⟩:∃(a4:ByteArray),a4=(joinB ([]++[((ByteArray.mk #[115,101,101,110]):ByteArray)]) (ByteArray.mk #[32]))∧Real Tryz.prog 41 [.sl 1 (eraseR r50),.str (ByteArray.mk #[32])] (.str a4):=⟨_,rfl,by subst d7;simp only[erR_String];exact rJoin A hA ([]++[((ByteArray.mk #[115,101,101,110]):ByteArray)]) (ByteArray.mk #[32]) (by decide) (by decide)⟩
  refine cvw q0 (.inl trivial) ?_
  obtain⟨s71,g2⟩:=nm ((ByteArray.mk #[40])++a4:ByteArray)
  have u2:ByteArray.size s71=ByteArray.size (ByteArray.mk #[40])+ByteArray.size a4:=by rw[g2];exact ByteArray.size_append
  have m9:ByteArray.size (ByteArray.mk #[40])+ByteArray.size a4≤140737488355328:=by
   have hj:ByteArray.size a4≤30:=by rw[c8];decide
   have e1:(ByteArray.mk #[40]).size=1:=rfl
   have e2:(ByteArray.mk #[41]).size=1:=rfl
   omega
  refine ops_step rfl rfl (str_add rfl rfl rfl g2 m9) ?_
  obtain⟨s72,f6⟩:=nm (s71++(ByteArray.mk #[41]):ByteArray)
  have r5:ByteArray.size s72=ByteArray.size s71+ByteArray.size (ByteArray.mk #[41]):=by rw[f6];exact ByteArray.size_append
  have k9:ByteArray.size s71+ByteArray.size (ByteArray.mk #[41])≤140737488355328:=by
   have hj:ByteArray.size a4≤30:=by rw[c8];decide
   have e1:(ByteArray.mk #[40]).size=1:=rfl
   have e2:(ByteArray.mk #[41]).size=1:=rfl
   omega
  refine ops_step rfl rfl (str_add rfl rfl rfl f6 k9) ?_
  refine rz hA 1 ?_
  refine rt (gt ?_)
  refine congrArg PV.str ?_
  subst hA
  have b0:bitF f 0=true:=by
   have hab:std.num .and .i64 f 1=0↔bitF f 0=false:=and_bit 0 (by decide) hf (.inl ⟨by omega,rfl⟩)
   cases hb:bitF f 0 with
   | true=>rfl
   | false=>exact absurd (hab.2 hb) (by assumption)
  have b1:bitF f 1=false:=by
   have hab:std.num .and .i64 f 2=0↔bitF f 1=false:=and_bit 1 (by decide) hf (.inl ⟨by omega,rfl⟩)
   exact hab.1 (by assumption)
  have b2:bitF f 2=false:=by
   have hab:std.num .and .i64 f 4=0↔bitF f 2=false:=and_bit 2 (by decide) hf (.inl ⟨by omega,rfl⟩)
   exact hab.1 (by assumption)
  have hj:(joinB ([]++[((ByteArray.mk #[115,101,101,110]):ByteArray)]) (ByteArray.mk #[32]))=fwS f 3:=fwS_join f _ (by simp[b0,b1,b2,wdF,wdsF])
  rw[f6,g2,c8,hj];rfl
 have q2:(A.num .and .i64 f 1)=0:=neq_f hA c49
 refine gk (gs (gx hA 3 ?_))
 refine gc (fun c73=> ?_) (fun c73=> ?_)
 ·
  have l7:(A.num .and .i64 f 2)≠0:=neq_t hA c73
  refine gr (rn hA 2 ?_)
  obtain⟨r74,j1⟩:=nm (([])++[[.str (ByteArray.mk #[102,108,97,103,103,101,100])]]:RR)
  have e3:r74=List.map eString (([])++([((ByteArray.mk #[102,108,97,103,103,101,100]):ByteArray)])):=by rw[j1];exact app_eq rfl (by rfl)
  have s2:=rlen_map hA e3
  refine ops_step rfl rfl (app_own rfl rfl rfl rfl rfl rfl rfl rfl j1 (by cbv) (by cbv) (by cbv) rfl (by
   show(List.length ([])+List.length ([[.str (ByteArray.mk #[102,108,97,103,103,101,100])]])) * _≤_
   decide) (by decide) (by decide)) ?_
  refine rz hA 1 ?_
  refine gs (gx hA 3 ?_)
  refine gc (fun c75=> ?_) (fun c75=> ?_)
  ·
   have l2:(A.num .and .i64 f 4)≠0:=neq_t hA c75
   refine gr (rn hA 2 ?_)
   obtain⟨r76,j9⟩:=nm (r74++[[.str (ByteArray.mk #[100,101,108,101,116,101,100])]]:RR)
   have i8:r76=List.map eString (([]++[((ByteArray.mk #[102,108,97,103,103,101,100]):ByteArray)])++([((ByteArray.mk #[100,101,108,101,116,101,100]):ByteArray)])):=by rw[j9];exact app_eq e3 (by rfl)
   have r9:=rlen_map hA i8
   refine ops_step rfl rfl (app_own rfl rfl rfl rfl rfl rfl rfl rfl j9 (by cbv) (by cbv) (by cbv) rfl (by
    show(List.length r74+List.length ([[.str (ByteArray.mk #[100,101,108,101,116,101,100])]])) * _≤_
    rw[e3];decide) (by decide) (by decide)) ?_
   refine rz hA 1 ?_
   refine gs (gr (rn hA 1 ?_))
   obtain⟨b4,d4,k8⟩:∃(b4:ByteArray),b4=(joinB ([]++[((ByteArray.mk #[102,108,97,103,103,101,100]):ByteArray)]++[((ByteArray.mk #[100,101,108,101,116,101,100]):ByteArray)]) (ByteArray.mk #[32]))∧Real Tryz.prog 41 [.sl 1 (eraseR r76),.str (ByteArray.mk #[32])] (.str b4):=⟨_,rfl,by subst i8;simp only[erR_String];exact rJoin A hA ([]++[((ByteArray.mk #[102,108,97,103,103,101,100]):ByteArray)]++[((ByteArray.mk #[100,101,108,101,116,101,100]):ByteArray)]) (ByteArray.mk #[32]) (by decide) (by decide)⟩
   refine cvw k8 (.inl trivial) ?_
   obtain⟨s79,f2⟩:=nm ((ByteArray.mk #[40])++b4:ByteArray)
   have t7:ByteArray.size s79=ByteArray.size (ByteArray.mk #[40])+ByteArray.size b4:=by rw[f2];exact ByteArray.size_append
   have o5:ByteArray.size (ByteArray.mk #[40])+ByteArray.size b4≤140737488355328:=by
    have hj:ByteArray.size b4≤30:=by rw[d4];decide
    have e1:(ByteArray.mk #[40]).size=1:=rfl
    have e2:(ByteArray.mk #[41]).size=1:=rfl
    omega
   refine ops_step rfl rfl (str_add rfl rfl rfl f2 o5) ?_
   obtain⟨s80,f1⟩:=nm (s79++(ByteArray.mk #[41]):ByteArray)
   have q7:ByteArray.size s80=ByteArray.size s79+ByteArray.size (ByteArray.mk #[41]):=by rw[f1];exact ByteArray.size_append
   have n7:ByteArray.size s79+ByteArray.size (ByteArray.mk #[41])≤140737488355328:=by
    have hj:ByteArray.size b4≤30:=by rw[d4];decide
    have e1:(ByteArray.mk #[40]).size=1:=rfl
    have e2:(ByteArray.mk #[41]).size=1:=rfl
    omega
   refine ops_step rfl rfl (str_add rfl rfl rfl f1 n7) ?_
   refine rz hA 1 ?_
   refine rt (gt ?_)
   refine congrArg PV.str ?_
   subst hA
   have b0:bitF f 0=false:=by
    have hab:std.num .and .i64 f 1=0↔bitF f 0=false:=and_bit 0 (by decide) hf (.inl ⟨by omega,rfl⟩)
    exact hab.1 (by assumption)
   have b1:bitF f 1=true:=by
    have hab:std.num .and .i64 f 2=0↔bitF f 1=false:=and_bit 1 (by decide) hf (.inl ⟨by omega,rfl⟩)
    cases hb:bitF f 1 with
    | true=>rfl
    | false=>exact absurd (hab.2 hb) (by assumption)
   have b2:bitF f 2=true:=by
    have hab:std.num .and .i64 f 4=0↔bitF f 2=false:=and_bit 2 (by decide) hf (.inl ⟨by omega,rfl⟩)
    cases hb:bitF f 2 with
    | true=>rfl
    | false=>exact absurd (hab.2 hb) (by assumption)
   have hj:(joinB ([]++[((ByteArray.mk #[102,108,97,103,103,101,100]):ByteArray)]++[((ByteArray.mk #[100,101,108,101,116,101,100]):ByteArray)]) (ByteArray.mk #[32]))=fwS f 3:=fwS_join f _ (by simp[b0,b1,b2,wdF,wdsF])
   rw[f1,f2,d4,hj];rfl
  have l2:(A.num .and .i64 f 4)=0:=neq_f hA c75
  refine gk (gs (gr (rn hA 1 ?_)))
  obtain⟨a1,d0,o7⟩:∃(a1:ByteArray),a1=(joinB ([]++[((ByteArray.mk #[102,108,97,103,103,101,100]):ByteArray)]) (ByteArray.mk #[32]))∧Real Tryz.prog 41 [.sl 1 (eraseR r74),.str (ByteArray.mk #[32])] (.str a1):=⟨_,rfl,by subst e3;simp only[erR_String];exact rJoin A hA ([]++[((ByteArray.mk #[102,108,97,103,103,101,100]):ByteArray)]) (ByteArray.mk #[32]) (by decide) (by decide)⟩
  refine cvw o7 (.inl trivial) ?_
  obtain⟨s83,g5⟩:=nm ((ByteArray.mk #[40])++a1:ByteArray)
  have s1:ByteArray.size s83=ByteArray.size (ByteArray.mk #[40])+ByteArray.size a1:=by rw[g5];exact ByteArray.size_append
  have p3:ByteArray.size (ByteArray.mk #[40])+ByteArray.size a1≤140737488355328:=by
   have hj:ByteArray.size a1≤30:=by rw[d0];decide
   have e1:(ByteArray.mk #[40]).size=1:=rfl
   have e2:(ByteArray.mk #[41]).size=1:=rfl
   omega
  refine ops_step rfl rfl (str_add rfl rfl rfl g5 p3) ?_
  obtain⟨s84,g3⟩:=nm (s83++(ByteArray.mk #[41]):ByteArray)
  have q6:ByteArray.size s84=ByteArray.size s83+ByteArray.size (ByteArray.mk #[41]):=by rw[g3];exact ByteArray.size_append
  have p5:ByteArray.size s83+ByteArray.size (ByteArray.mk #[41])≤140737488355328:=by
   have hj:ByteArray.size a1≤30:=by rw[d0];decide
   have e1:(ByteArray.mk #[40]).size=1:=rfl
   have e2:(ByteArray.mk #[41]).size=1:=rfl
   omega
  refine ops_step rfl rfl (str_add rfl rfl rfl g3 p5) ?_
  refine rz hA 1 ?_
  refine rt (gt ?_)
  refine congrArg PV.str ?_
  subst hA
  have b0:bitF f 0=false:=by
   have hab:std.num .and .i64 f 1=0↔bitF f 0=false:=and_bit 0 (by decide) hf (.inl ⟨by omega,rfl⟩)
   exact hab.1 (by assumption)
  have b1:bitF f 1=true:=by
   have hab:std.num .and .i64 f 2=0↔bitF f 1=false:=and_bit 1 (by decide) hf (.inl ⟨by omega,rfl⟩)
   cases hb:bitF f 1 with
   | true=>rfl
   | false=>exact absurd (hab.2 hb) (by assumption)
  have b2:bitF f 2=false:=by
   have hab:std.num .and .i64 f 4=0↔bitF f 2=false:=and_bit 2 (by decide) hf (.inl ⟨by omega,rfl⟩)
   exact hab.1 (by assumption)
  have hj:(joinB ([]++[((ByteArray.mk #[102,108,97,103,103,101,100]):ByteArray)]) (ByteArray.mk #[32]))=fwS f 3:=fwS_join f _ (by simp[b0,b1,b2,wdF,wdsF])
  rw[g3,g5,d0,hj];rfl
 have l7:(A.num .and .i64 f 2)=0:=neq_f hA c73
 refine gk (gs (gx hA 3 ?_))
 refine gc (fun c85=> ?_) (fun c85=> ?_)
 ·
  have n8:(A.num .and .i64 f 4)≠0:=neq_t hA c85
  refine gr (rn hA 2 ?_)
  obtain⟨r86,j7⟩:=nm (([])++[[.str (ByteArray.mk #[100,101,108,101,116,101,100])]]:RR)
  have i7:r86=List.map eString (([])++([((ByteArray.mk #[100,101,108,101,116,101,100]):ByteArray)])):=by rw[j7];exact app_eq rfl (by rfl)
  have u8:=rlen_map hA i7
  refine ops_step rfl rfl (app_own rfl rfl rfl rfl rfl rfl rfl rfl j7 (by cbv) (by cbv) (by cbv) rfl (by
   show(List.length ([])+List.length ([[.str (ByteArray.mk #[100,101,108,101,116,101,100])]])) * _≤_
   decide) (by decide) (by decide)) ?_
  refine rz hA 1 ?_
  refine gs (gr (rn hA 1 ?_))
  obtain⟨a8,d8,n5⟩:∃(a8:ByteArray),a8=(joinB ([]++[((ByteArray.mk #[100,101,108,101,116,101,100]):ByteArray)]) (ByteArray.mk #[32]))∧Real Tryz.prog 41 [.sl 1 (eraseR r86),.str (ByteArray.mk #[32])] (.str a8):=⟨_,rfl,by subst i7;simp only[erR_String];exact rJoin A hA ([]++[((ByteArray.mk #[100,101,108,101,116,101,100]):ByteArray)]) (ByteArray.mk #[32]) (by decide) (by decide)⟩
  refine cvw n5 (.inl trivial) ?_
  obtain⟨s89,g9⟩:=nm ((ByteArray.mk #[40])++a8:ByteArray)
  have t8:ByteArray.size s89=ByteArray.size (ByteArray.mk #[40])+ByteArray.size a8:=by rw[g9];exact ByteArray.size_append
  have m4:ByteArray.size (ByteArray.mk #[40])+ByteArray.size a8≤140737488355328:=by
   have hj:ByteArray.size a8≤30:=by rw[d8];decide
   have e1:(ByteArray.mk #[40]).size=1:=rfl
   have e2:(ByteArray.mk #[41]).size=1:=rfl
   omega
  refine ops_step rfl rfl (str_add rfl rfl rfl g9 m4) ?_
  obtain⟨s90,g4⟩:=nm (s89++(ByteArray.mk #[41]):ByteArray)
  have q9:ByteArray.size s90=ByteArray.size s89+ByteArray.size (ByteArray.mk #[41]):=by rw[g4];exact ByteArray.size_append
  have p6:ByteArray.size s89+ByteArray.size (ByteArray.mk #[41])≤140737488355328:=by
   have hj:ByteArray.size a8≤30:=by rw[d8];decide
   have e1:(ByteArray.mk #[40]).size=1:=rfl
   have e2:(ByteArray.mk #[41]).size=1:=rfl
   omega
  refine ops_step rfl rfl (str_add rfl rfl rfl g4 p6) ?_
  refine rz hA 1 ?_
  refine rt (gt ?_)
  refine congrArg PV.str ?_
  subst hA
  have b0:bitF f 0=false:=by
   have hab:std.num .and .i64 f 1=0↔bitF f 0=false:=and_bit 0 (by decide) hf (.inl ⟨by omega,rfl⟩)
   exact hab.1 (by assumption)
  have b1:bitF f 1=false:=by
   have hab:std.num .and .i64 f 2=0↔bitF f 1=false:=and_bit 1 (by decide) hf (.inl ⟨by omega,rfl⟩)
   exact hab.1 (by assumption)
  have b2:bitF f 2=true:=by
   have hab:std.num .and .i64 f 4=0↔bitF f 2=false:=and_bit 2 (by decide) hf (.inl ⟨by omega,rfl⟩)
   cases hb:bitF f 2 with
   | true=>rfl
   | false=>exact absurd (hab.2 hb) (by assumption)
  have hj:(joinB ([]++[((ByteArray.mk #[100,101,108,101,116,101,100]):ByteArray)]) (ByteArray.mk #[32]))=fwS f 3:=fwS_join f _ (by simp[b0,b1,b2,wdF,wdsF])
  rw[g4,g9,d8,hj];rfl
 have n8:(A.num .and .i64 f 4)=0:=neq_f hA c85
 refine gk (gs (gr (rn hA 1 ?_)))
 obtain⟨a5,c6,l1⟩:∃(a5:ByteArray),a5=(joinB ([]) (ByteArray.mk #[32]))∧Real Tryz.prog 41 [.sl 1 (eraseR []),.str (ByteArray.mk #[32])] (.str a5):=⟨_,rfl,by exact rJoin A hA ([]) (ByteArray.mk #[32]) (by decide) (by decide)⟩
 refine cvw l1 (.inl trivial) ?_
 obtain⟨s93,i5⟩:=nm ((ByteArray.mk #[40])++a5:ByteArray)
 have s8:ByteArray.size s93=ByteArray.size (ByteArray.mk #[40])+ByteArray.size a5:=by rw[i5];exact ByteArray.size_append
 have m7:ByteArray.size (ByteArray.mk #[40])+ByteArray.size a5≤140737488355328:=by
  have hj:ByteArray.size a5≤30:=by rw[c6];decide
  have e1:(ByteArray.mk #[40]).size=1:=rfl
  have e2:(ByteArray.mk #[41]).size=1:=rfl
  omega
 refine ops_step rfl rfl (str_add rfl rfl rfl i5 m7) ?_
 obtain⟨s94,g1⟩:=nm (s93++(ByteArray.mk #[41]):ByteArray)
 have s9:ByteArray.size s94=ByteArray.size s93+ByteArray.size (ByteArray.mk #[41]):=by rw[g1];exact ByteArray.size_append
 have n3:ByteArray.size s93+ByteArray.size (ByteArray.mk #[41])≤140737488355328:=by
  have hj:ByteArray.size a5≤30:=by rw[c6];decide
  have e1:(ByteArray.mk #[40]).size=1:=rfl
  have e2:(ByteArray.mk #[41]).size=1:=rfl
  omega
 refine ops_step rfl rfl (str_add rfl rfl rfl g1 n3) ?_
 refine rz hA 1 ?_
 refine rt (gt ?_)
 refine congrArg PV.str ?_
 subst hA
 have b0:bitF f 0=false:=by
  have hab:std.num .and .i64 f 1=0↔bitF f 0=false:=and_bit 0 (by decide) hf (.inl ⟨by omega,rfl⟩)
  exact hab.1 (by assumption)
 have b1:bitF f 1=false:=by
  have hab:std.num .and .i64 f 2=0↔bitF f 1=false:=and_bit 1 (by decide) hf (.inl ⟨by omega,rfl⟩)
  exact hab.1 (by assumption)
 have b2:bitF f 2=false:=by
  have hab:std.num .and .i64 f 4=0↔bitF f 2=false:=and_bit 2 (by decide) hf (.inl ⟨by omega,rfl⟩)
  exact hab.1 (by assumption)
 have hj:(joinB ([]) (ByteArray.mk #[32]))=fwS f 3:=fwS_join f _ (by simp[b0,b1,b2,wdF,wdsF])
 rw[g1,i5,c6,hj];rfl
end Go.Av

/- Walks: copies. -/
import Derived.Test.YtjbokkoiicoahaaGreatTm
namespace Go.Av
open Go Go.Proofs
set_option maxRecDepth 100000
set_option maxHeartbeats 4000000
set_option linter.unusedVariables false
set_option linter.unusedSimpArgs false
theorem r_Clone_Int (A : Alg) (hA : A = std) (x : List Int) (hb : List.length x ≤ 1048576) : Real Tryz.prog 65 [.sl 1 (List.map eInt x)] (.ow 1 (List.map eInt x)) := by
 obtain ⟨x_r, a2⟩ := nm (x.map eInt)
 have d4 := rlen_map hA a2
 refine real_args (args' := [.sl 1 x_r]) (by subst a2; rfl) ?_
 refine real tyOk Tryz.func65 (by kernel_rfl) (afun_of rfl ?_)
 refine gx hA 1 ?_
 refine gs (gs (gr (rn hA 1 ?_)))
 refine ops_isnil rfl rfl rfl rfl (by cbv) (fun b1 hb1 => ?_)
 refine od ?_
 refine go_cond rfl (fun c2 => ?_) (fun c2 => ?_)
 ·
  refine gs (gB (rn hA 1 ?_))
  refine ops_doneB (tw := [.slot 2 2 1]) (by cbv) ?_
  refine go_ret ⟨_, by cbv, ?_⟩
  show _ = (PV.ow 1 ([]))
  refine congrArg (PV.ow 1) ?_
  exact Eq.trans (show List.map eInt x = List.map eInt x from rfl) (a2.symm.trans (hb1 c2))
 refine gk (gs (gr (rn hA 2 ?_)))
 obtain ⟨r3, hr3⟩ := nm (([]) ++ x_r : RR)
 have er3 : r3 = List.map eInt (([]) ++ x) := by rw [hr3]; exact app_eq rfl a2
 have lr3 := rlen_map hA er3
 refine ops_step rfl rfl (app_own rfl rfl rfl rfl rfl rfl rfl rfl hr3 (by cbv) (by cbv) (by cbv) rfl (by
  show (List.length ([]) + List.length x_r) * _ ≤ _
  show (List.length ([] : RR) + List.length x_r) * 8 ≤ _
  rw [a2]; simp only [List.length_nil, List.length_map]; omega) (by decide) (by decide)) ?_
 refine rz hA 1 ?_
 refine go_ret ⟨_, by cbv, ?_⟩
 show _ = (PV.ow 1 r3)
 refine congrArg (PV.ow 1) ?_
 exact (er3.trans rfl).symm
theorem r_Clone_Bool (A : Alg) (hA : A = std) (x : List Bool) (hb : List.length x ≤ 1048576) : Real Tryz.prog 177 [.sl 1 (List.map eBool x)] (.ow 1 (List.map eBool x)) := by
 obtain ⟨x_r, a2⟩ := nm (x.map eBool)
 have d4 := rlen_map hA a2
 refine real_args (args' := [.sl 1 x_r]) (by subst a2; rfl) ?_
 refine real tyOk Tryz.func177 (by kernel_rfl) (afun_of rfl ?_)
 refine gx hA 1 ?_
 refine gs (gs (gr (rn hA 1 ?_)))
 refine ops_isnil rfl rfl rfl rfl (by cbv) (fun b1 hb1 => ?_)
 refine od ?_
 refine go_cond rfl (fun c2 => ?_) (fun c2 => ?_)
 ·
  refine gs (gB (rn hA 1 ?_))
  refine ops_doneB (tw := [.slot 2 2 1]) (by cbv) ?_
  refine go_ret ⟨_, by cbv, ?_⟩
  show _ = (PV.ow 1 ([]))
  refine congrArg (PV.ow 1) ?_
  exact Eq.trans (show List.map eBool x = List.map eBool x from rfl) (a2.symm.trans (hb1 c2))
 refine gk (gs (gr (rn hA 2 ?_)))
 obtain ⟨r3, hr3⟩ := nm (([]) ++ x_r : RR)
 have er3 : r3 = List.map eBool (([]) ++ x) := by rw [hr3]; exact app_eq rfl a2
 have lr3 := rlen_map hA er3
 refine ops_step rfl rfl (app_own rfl rfl rfl rfl rfl rfl rfl rfl hr3 (by cbv) (by cbv) (by cbv) rfl (by
  show (List.length ([]) + List.length x_r) * _ ≤ _
  show (List.length ([] : RR) + List.length x_r) * 1 ≤ _
  rw [a2]; simp only [List.length_nil, List.length_map]; omega) (by decide) (by decide)) ?_
 refine rz hA 1 ?_
 refine go_ret ⟨_, by cbv, ?_⟩
 show _ = (PV.ow 1 r3)
 refine congrArg (PV.ow 1) ?_
 exact (er3.trans rfl).symm
theorem r_Clone_String (A : Alg) (hA : A = std) (x : List ByteArray) (hb : List.length x ≤ 1048576) : Real Tryz.prog 150 [.sl 1 (List.map eString x)] (.ow 1 (List.map eString x)) := by
 obtain ⟨x_r, a2⟩ := nm (x.map eString)
 have d4 := rlen_map hA a2
 refine real_args (args' := [.sl 1 x_r]) (by subst a2; rfl) ?_
 refine real tyOk Tryz.func150 (by kernel_rfl) (afun_of rfl ?_)
 refine gx hA 1 ?_
 refine gs (gs (gr (rn hA 1 ?_)))
 refine ops_isnil rfl rfl rfl rfl (by cbv) (fun b1 hb1 => ?_)
 refine od ?_
 refine go_cond rfl (fun c2 => ?_) (fun c2 => ?_)
 ·
  refine gs (gB (rn hA 1 ?_))
  refine ops_doneB (tw := [.slot 2 2 1]) (by cbv) ?_
  refine go_ret ⟨_, by cbv, ?_⟩
  show _ = (PV.ow 1 ([]))
  refine congrArg (PV.ow 1) ?_
  exact Eq.trans (show List.map eString x = List.map eString x from rfl) (a2.symm.trans (hb1 c2))
 refine gk (gs (gr (rn hA 2 ?_)))
 obtain ⟨r3, hr3⟩ := nm (([]) ++ x_r : RR)
 have er3 : r3 = List.map eString (([]) ++ x) := by rw [hr3]; exact app_eq rfl a2
 have lr3 := rlen_map hA er3
 refine ops_step rfl rfl (app_own rfl rfl rfl rfl rfl rfl rfl rfl hr3 (by cbv) (by cbv) (by cbv) rfl (by
  show (List.length ([]) + List.length x_r) * _ ≤ _
  show (List.length ([] : RR) + List.length x_r) * 16 ≤ _
  rw [a2]; simp only [List.length_nil, List.length_map]; omega) (by decide) (by decide)) ?_
 refine rz hA 1 ?_
 refine go_ret ⟨_, by cbv, ?_⟩
 show _ = (PV.ow 1 r3)
 refine congrArg (PV.ow 1) ?_
 exact (er3.trans rfl).symm
theorem r_Clone_Mail (A : Alg) (hA : A = std) (x : List GMail) (hb : List.length x ≤ 1048576) : Real Tryz.prog 176 [.sl 3 (List.map eMail x)] (.ow 3 (List.map eoMail x)) := by
 obtain ⟨x_r, a2⟩ := nm (x.map eMail)
 have d4 := rlen_map hA a2
 refine real_args (args' := [.sl 3 x_r]) (by subst a2; rfl) ?_
 refine real tyOk Tryz.func176 (by kernel_rfl) (afun_of rfl ?_)
 refine gx hA 1 ?_
 refine gs (gs (gr (rn hA 1 ?_)))
 refine ops_isnil rfl rfl rfl rfl (by cbv) (fun b1 hb1 => ?_)
 refine od ?_
 refine go_cond rfl (fun c2 => ?_) (fun c2 => ?_)
 ·
  refine gs (gB (rn hA 1 ?_))
  refine ops_doneB (tw := [.slot 2 2 3]) (by cbv) ?_
  refine go_ret ⟨_, by cbv, ?_⟩
  show _ = (PV.ow 3 ([]))
  refine congrArg (PV.ow 3) ?_
  exact Eq.trans (show List.map eoMail x = List.map eMail x from rfl) (a2.symm.trans (hb1 c2))
 refine gk (gs (gr (rn hA 2 ?_)))
 obtain ⟨r3, hr3⟩ := nm (([]) ++ x_r : RR)
 have er3 : r3 = List.map eoMail (([]) ++ x) := by rw [hr3]; exact app_eq rfl a2
 have lr3 := rlen_map hA er3
 refine ops_step rfl rfl (app_own rfl rfl rfl rfl rfl rfl rfl rfl hr3 (by cbv) (by cbv) (by cbv) rfl (by
  show (List.length ([]) + List.length x_r) * _ ≤ _
  show (List.length ([] : RR) + List.length x_r) * 32 ≤ _
  rw [a2]; simp only [List.length_nil, List.length_map]; omega) (by decide) (by decide)) ?_
 refine rz hA 1 ?_
 refine go_ret ⟨_, by cbv, ?_⟩
 show _ = (PV.ow 3 r3)
 refine congrArg (PV.ow 3) ?_
 exact (er3.trans rfl).symm
theorem r_spec_l21Copy (A : Alg) (hA : A = std) (x : GLook) (hz : ∀ k ∈ zsLook x, k ≤ 1048576) : Real Tryz.prog 92 [.agg (eLook x)] (.agg (eoLook x)) := by
 obtain ⟨a7, b6, c9, b7, b5⟩ := x
 obtain ⟨b4, b0⟩ := nm (b5.map eInt)
 have e2 := rlen_map hA b0
 refine real_args (args' := [.agg [.ii a7, .str b6, .str c9, .ii b7, .sl 1 b4]]) (by subst b0; rfl) ?_
 have n0 : List.length b5 ≤ 1048576 := hz _ (by simp [zsLook, zsIntS])
 refine real tyOk Tryz.func92 (by kernel_rfl) (afun_of rfl ?_)
 refine gx hA 2 ?_
 refine gx hA 3 ?_
 refine gs (gr (rn hA 3 ?_))
 obtain ⟨r1, hr1⟩ := nm (([]) ++ b4 : RR)
 have er1 : r1 = List.map eInt (([]) ++ b5) := by rw [hr1]; exact app_eq rfl b0
 have lr1 := rlen_map hA er1
 refine ops_step rfl rfl (app_own rfl rfl rfl rfl rfl rfl rfl rfl hr1 (by cbv) (by cbv) (by cbv) rfl (by
  show (List.length ([]) + List.length b4) * _ ≤ _
  simp only [List.length_nil, List.length_map, Nat.zero_add, *]
  omega) (by decide) (by decide)) ?_
 refine rz hA 2 ?_
 refine gx hA 2 ?_
 refine go_ret ⟨_, by cbv, ?_⟩
 show _ = (PV.agg [.ii a7, .str b6, .str c9, .ii b7, .ow 1 r1])
 simp only [er1, List.nil_append]
 rfl
theorem r_impl_cloneBring (A : Alg) (hA : A = std) (x : GBring) (hz : ∀ k ∈ zsBring x, k ≤ 1048576) : Real Tryz.prog 136 [.agg (eBring x)] (.agg (eoBring x)) := by
 obtain ⟨a7, e5, e0, c6⟩ := x
 obtain ⟨e3, d0⟩ := nm (e0.map eString)
 have f5 := rlen_map hA d0
 obtain ⟨d5, c3⟩ := nm (c6.map eString)
 have f4 := rlen_map hA c3
 refine real_args (args' := [.agg [.ii a7, .str e5, .sl 1 e3, .sl 1 d5]]) (by subst d0 c3; rfl) ?_
 have n0 : List.length e0 ≤ 1048576 := hz _ (by simp [zsBring, zsStringS])
 have n1 : List.length c6 ≤ 1048576 := hz _ (by simp [zsBring, zsStringS])
 refine real tyOk Tryz.func136 (by kernel_rfl) (afun_of rfl ?_)
 refine gx hA 2 ?_
 refine gs (gr (rn hA 2 ?_))
 obtain ⟨a5, b3, hc2⟩ : ∃ (a5 : RR), a5 = List.map eString e0 ∧ Real Tryz.prog 150 [.sl 1 e3] (.ow 1 a5) := ⟨_, rfl, by subst d0; exact r_Clone_String A hA e0 (by omega)⟩
 have d9 := rlen_map hA b3
 refine ops_callV rfl rfl (by cbv) (by cbv) hc2 (.inr rfl) (by cbv) ?_
 refine rz hA 2 ?_
 refine gs (gr (rn hA 2 ?_))
 obtain ⟨b8, c7, hc4⟩ : ∃ (b8 : RR), b8 = List.map eString c6 ∧ Real Tryz.prog 150 [.sl 1 d5] (.ow 1 b8) := ⟨_, rfl, by subst c3; exact r_Clone_String A hA c6 (by omega)⟩
 have f2 := rlen_map hA c7
 refine ops_callV rfl rfl (by cbv) (by cbv) hc4 (.inr rfl) (by cbv) ?_
 refine rz hA 2 ?_
 refine gx hA 2 ?_
 refine go_ret ⟨_, by cbv, ?_⟩
 show _ = (PV.agg [.ii a7, .str e5, .ow 1 a5, .ow 1 b8])
 simp only [b3, c7, List.nil_append]
 rfl
theorem r_impl_cloneFetch (A : Alg) (hA : A = std) (x : GFetch) (hz : ∀ k ∈ zsFetch x, k ≤ 1048576) : Real Tryz.prog 137 [.agg (eFetch x)] (.agg (eoFetch x)) := by
 obtain ⟨a7, b6, c4, c8⟩ := x
 obtain ⟨d1, c0⟩ := nm (c4.map eMail)
 have f0 := rlen_map hA c0
 obtain ⟨d3, c1⟩ := nm (c8.map eBool)
 have f3 := rlen_map hA c1
 refine real_args (args' := [.agg [.ii a7, .str b6, .sl 3 d1, .sl 1 d3]]) (by subst c0 c1; rfl) ?_
 have n0 : List.length c4 ≤ 1048576 := hz _ (by simp [zsFetch, zsBoolS, zsMailS])
 have n1 : List.length c8 ≤ 1048576 := hz _ (by simp [zsFetch, zsBoolS, zsMailS])
 refine real tyOk Tryz.func137 (by kernel_rfl) (afun_of rfl ?_)
 refine gx hA 2 ?_
 refine gs (gr (rn hA 2 ?_))
 obtain ⟨a5, b3, hc2⟩ : ∃ (a5 : RR), a5 = List.map eoMail c4 ∧ Real Tryz.prog 176 [.sl 3 d1] (.ow 3 a5) := ⟨_, rfl, by subst c0; exact r_Clone_Mail A hA c4 (by omega)⟩
 have d9 := rlen_map hA b3
 refine ops_callV rfl rfl (by cbv) (by cbv) hc2 (.inr rfl) (by cbv) ?_
 refine rz hA 2 ?_
 refine gs (gr (rn hA 2 ?_))
 obtain ⟨b8, c7, hc4⟩ : ∃ (b8 : RR), b8 = List.map eBool c8 ∧ Real Tryz.prog 177 [.sl 1 d3] (.ow 1 b8) := ⟨_, rfl, by subst c1; exact r_Clone_Bool A hA c8 (by omega)⟩
 have f2 := rlen_map hA c7
 refine ops_callV rfl rfl (by cbv) (by cbv) hc4 (.inr rfl) (by cbv) ?_
 refine rz hA 2 ?_
 refine gx hA 2 ?_
 refine go_ret ⟨_, by cbv, ?_⟩
 show _ = (PV.agg [.ii a7, .str b6, .ow 3 a5, .ow 1 b8])
 simp only [b3, c7, List.nil_append]
 rfl
theorem r_impl_cloneLook (A : Alg) (hA : A = std) (x : GLook) (hz : ∀ k ∈ zsLook x, k ≤ 1048576) : Real Tryz.prog 138 [.agg (eLook x)] (.agg (eoLook x)) := by
 obtain ⟨a7, b6, c9, b7, b5⟩ := x
 obtain ⟨b4, b0⟩ := nm (b5.map eInt)
 have e2 := rlen_map hA b0
 refine real_args (args' := [.agg [.ii a7, .str b6, .str c9, .ii b7, .sl 1 b4]]) (by subst b0; rfl) ?_
 have n0 : List.length b5 ≤ 1048576 := hz _ (by simp [zsLook, zsIntS])
 refine real tyOk Tryz.func138 (by kernel_rfl) (afun_of rfl ?_)
 refine gx hA 2 ?_
 refine gs (gr (rn hA 2 ?_))
 obtain ⟨a5, b3, hc2⟩ : ∃ (a5 : RR), a5 = List.map eInt b5 ∧ Real Tryz.prog 65 [.sl 1 b4] (.ow 1 a5) := ⟨_, rfl, by subst b0; exact r_Clone_Int A hA b5 (by omega)⟩
 have d9 := rlen_map hA b3
 refine ops_callV rfl rfl (by cbv) (by cbv) hc2 (.inr rfl) (by cbv) ?_
 refine rz hA 2 ?_
 refine gx hA 2 ?_
 refine go_ret ⟨_, by cbv, ?_⟩
 show _ = (PV.agg [.ii a7, .str b6, .str c9, .ii b7, .ow 1 a5])
 simp only [b3, List.nil_append]
 rfl
end Go.Av

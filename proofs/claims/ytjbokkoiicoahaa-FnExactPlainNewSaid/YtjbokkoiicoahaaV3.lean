/- Walks: eq. -/
import Derived.Test.YtjbokkoiicoahaaTy
namespace Go.Av
open Go Go.Proofs
set_option maxRecDepth 100000
set_option maxHeartbeats 4000000
set_option linter.unusedVariables false
set_option linter.unusedSimpArgs false
def S35_1 (p0 : RR) (p1 : Int) : St := { sl := [.sl 1 p0, .sl 1 p0, .bad, .bad, .bad, .int .i64 p1, .bad, .bad, .bad, .bad, .bad, .bad, .bad, .bad, .bad, .bad, .bad, .bad, .bad, .bad, .bad, .bad, .bad, .bad, .bad, .bad], bl := [] }
theorem r_laws_eqStringS (A : Alg) (hA : A = std) (xs : List ByteArray) (hk : ∀ k ∈ zsStringS xs, (k : Int) ≤ 4611686018427387904) : Real Try.prog 35 [.sl 1 (List.map eString xs), .sl 1 (List.map eString xs)] (.bool true) := by
 obtain ⟨a0, a1⟩ := nm (xs.map eString)
 have k6 := rlen_map hA a1
 refine real_args (args' := [.sl 1 a0, .sl 1 a0]) (by subst a1; rfl) ?_
 have hlen : (List.length xs : Int) ≤ 4611686018427387904 := hk _ (by simp [zsStringS])
 refine real tyOk Try.func35 (by kernel_rfl) (afun_of rfl ?_)
 refine gs (gr (ra hA 1 (by cbv) (od ?_)))
 refine gs (gs (gr (ra hA 5 (by cbv) (od ?_))))
 refine go_cond rfl (fun c1 => ?_) (fun c1 => ?_)
 ·
  exact no_t c1 (show (A.cmp .neq (A.rlen a0) (A.rlen a0)) = false from by subst hA; simp [std])
 ·
  refine gk (gs (gs (gr (ra hA 1 (by cbv) (od ?_)))))
  refine go_block ?_
  refine go_loopE (fun σ m => ∃ (i : Nat) (n5 : Int), σ = (S35_1 a0 n5) ∧ (n5 = (i : Int) ∧ i ≤ List.length xs) ∧ m = List.length xs - i) _ [] [0, 1, 5] [] (S35_1 a0 0) rfl (by cbv) ⟨0, 0, rfl, ?_, rfl⟩ (fun σ m hI => ?_)
  ·
   exact ⟨rfl, Nat.zero_le _⟩
  obtain ⟨i, n5, rfl, ⟨hn5, hi⟩, rfl⟩ := hI
  refine gs (gs (gr (ra hA 4 (by cbv) (od ?_))))
  refine go_cond rfl (fun c2 => ?_) (fun c2 => ?_)
  ·
   have ec2 : n5 < (A.rlen a0) := lss_t hA c2
   refine gk (gs ?_)
   refine go_block ?_
   refine gs ?_
   refine go_draw (by cbv) ?_
   refine rd hA 2 (by cbv) ?_
   have b3 : (0 : Int) ≤ n5 := by
    omega
   have f8 : (Int.toNat n5) < List.length xs := by
    omega
   obtain ⟨x3, hx3⟩ : ∃ x, (xs)[(Int.toNat n5)]? = some x := ⟨_, List.getElem?_eq_getElem f8⟩
   have i7 := List.mem_of_getElem? hx3
   have b0 : a0[(Int.toNat n5)]? = some [.str x3] := by
    exact map_at eString a1 hx3
   refine dops_step rfl rfl rfl (idx_sl rfl rfl rfl rfl rfl b3 rfl b0) ?_
   refine rd hA 3 (by cbv) ?_
   refine dops_step rfl rfl rfl (idx_sl rfl rfl rfl rfl rfl b3 rfl b0) ?_
   refine rd hA 2 (by cbv) (dd_ ?_)
   refine go_cond rfl (fun c4 => ?_) (fun c4 => ?_)
   ·
    exact no_t c4 (show (A.scmp .neq x3 x3) = false from by subst hA; simp [std])
   ·
    refine gk (gr (ra hA 3 (by cbv) (od ?_)))
    refine ⟨(S35_1 a0 (A.num .add .i64 n5 1)), List.length xs - (i + 1), ?_, by cbv, i + 1, (A.num .add .i64 n5 1), rfl, ?_, rfl⟩
    ·
     omega
    ·
     exact ⟨by rw [add_i64 hA (by omega) (by omega)]; omega, by omega⟩
  ·
   have ec2 : (A.rlen a0) ≤ n5 := lss_f hA c2
   refine go_exit ⟨fun _ => ?_, fun h => absurd rfl h⟩
   refine gs (gr (ra hA 1 (by cbv) (od ?_)))
   refine go_ret ⟨_, by cbv, ?_⟩
   show _ = (PV.bool true)
   rfl
theorem r_laws_eqMail (A : Alg) (hA : A = std) (x : GMail) (hk : ∀ k ∈ zsMail x, (k : Int) ≤ 4611686018427387904) : Real Try.prog 145 [.agg (eMail x), .agg (eMail x)] (.bool true) := by
 obtain ⟨l6, j7, k3⟩ := x
 refine real_args (args' := [.agg [.int .i64 l6, .int .i64 j7, .str k3], .agg [.int .i64 l6, .int .i64 j7, .str k3]]) (by rfl) ?_
 refine real tyOk Try.func145 (by kernel_rfl) (afun_of rfl ?_)
 refine gs (gr (ra hA 3 (by cbv) (od ?_)))
 refine gs (gs (gr (ra hA 5 (by cbv) (od ?_))))
 refine go_cond rfl (fun c1 => ?_) (fun c1 => ?_)
 ·
  exact no_t c1 (show (A.cmp .neq l6 l6) = false from by subst hA; simp [std])
 ·
  refine gk (gs (gs (gr (ra hA 5 (by cbv) (od ?_)))))
  refine go_cond rfl (fun c2 => ?_) (fun c2 => ?_)
  ·
   exact no_t c2 (show (A.cmp .neq j7 j7) = false from by subst hA; simp [std])
  ·
   refine gk (gs (gs (gr (ra hA 5 (by cbv) (od ?_)))))
   refine go_cond rfl (fun c3 => ?_) (fun c3 => ?_)
   ·
    exact no_t c3 (show (A.scmp .neq k3 k3) = false from by subst hA; simp [std])
   ·
    refine gk (gs (gr (ra hA 1 (by cbv) (od ?_))))
    refine go_ret ⟨_, by cbv, ?_⟩
    show _ = (PV.bool true)
    rfl
def S128_1 (p0 : RR) (p1 : Int) : St := { sl := [.sl 3 p0, .sl 3 p0, .bad, .bad, .bad, .int .i64 p1, .bad, .bad, .bad, .bad, .bad, .bad, .bad, .bad, .bad, .bad, .bad, .bad, .bad, .bad, .bad, .bad, .bad, .bad, .bad, .bad, .bad], bl := [] }
theorem r_laws_eqMailS (A : Alg) (hA : A = std) (xs : List GMail) (hk : ∀ k ∈ zsMailS xs, (k : Int) ≤ 4611686018427387904) : Real Try.prog 128 [.sl 3 (List.map eMail xs), .sl 3 (List.map eMail xs)] (.bool true) := by
 obtain ⟨a0, a1⟩ := nm (xs.map eMail)
 have k6 := rlen_map hA a1
 refine real_args (args' := [.sl 3 a0, .sl 3 a0]) (by subst a1; rfl) ?_
 have hlen : (List.length xs : Int) ≤ 4611686018427387904 := hk _ (by simp [zsMailS])
 refine real tyOk Try.func128 (by kernel_rfl) (afun_of rfl ?_)
 refine gs (gr (ra hA 1 (by cbv) (od ?_)))
 refine gs (gs (gr (ra hA 5 (by cbv) (od ?_))))
 refine go_cond rfl (fun c1 => ?_) (fun c1 => ?_)
 ·
  exact no_t c1 (show (A.cmp .neq (A.rlen a0) (A.rlen a0)) = false from by subst hA; simp [std])
 ·
  refine gk (gs (gs (gr (ra hA 1 (by cbv) (od ?_)))))
  refine go_block ?_
  refine go_loopE (fun σ m => ∃ (i : Nat) (n5 : Int), σ = (S128_1 a0 n5) ∧ (n5 = (i : Int) ∧ i ≤ List.length xs) ∧ m = List.length xs - i) _ [] [0, 1, 5] [] (S128_1 a0 0) rfl (by cbv) ⟨0, 0, rfl, ?_, rfl⟩ (fun σ m hI => ?_)
  ·
   exact ⟨rfl, Nat.zero_le _⟩
  obtain ⟨i, n5, rfl, ⟨hn5, hi⟩, rfl⟩ := hI
  refine gs (gs (gr (ra hA 4 (by cbv) (od ?_))))
  refine go_cond rfl (fun c2 => ?_) (fun c2 => ?_)
  ·
   have ec2 : n5 < (A.rlen a0) := lss_t hA c2
   refine gk (gs ?_)
   refine go_block ?_
   refine gs ?_
   refine go_draw (by cbv) ?_
   refine rd hA 2 (by cbv) ?_
   have b3 : (0 : Int) ≤ n5 := by
    omega
   have f8 : (Int.toNat n5) < List.length xs := by
    omega
   obtain ⟨x3, hx3⟩ : ∃ x, (xs)[(Int.toNat n5)]? = some x := ⟨_, List.getElem?_eq_getElem f8⟩
   have i7 := List.mem_of_getElem? hx3
   obtain ⟨k2, g6, j6⟩ := x3
   have b0 : a0[(Int.toNat n5)]? = some [.int .i64 k2, .int .i64 g6, .str j6] := by
    exact map_at eMail a1 hx3
   have hkx := fun (k : Nat) h => hk k (List.mem_cons_of_mem _ (List.mem_flatMap.2 ⟨_, i7, h⟩))
   refine dops_step rfl rfl rfl (idx_sl rfl rfl rfl rfl rfl b3 rfl b0) ?_
   refine rd hA 3 (by cbv) ?_
   refine dops_step rfl rfl rfl (idx_sl rfl rfl rfl rfl rfl b3 rfl b0) ?_
   refine rd hA 1 (by cbv) ?_
   have hc5 : Real Try.prog 145 [.agg [.int .i64 k2, .int .i64 g6, .str j6], .agg [.int .i64 k2, .int .i64 g6, .str j6]] (.bool true) := by exact r_laws_eqMail A hA (⟨k2, g6, j6⟩ : GMail) hkx
   refine dops_callV rfl rfl (by cbv) (by cbv) hc5 (.inr rfl) ?_
   refine rd hA 1 (by cbv) (dd_ ?_)
   refine go_cond rfl (fun c6 => ?_) (fun c6 => ?_)
   ·
    exact no_t c6 (show (A.bnot true) = false from by subst hA; rfl)
   ·
    refine gk (gr (ra hA 3 (by cbv) (od ?_)))
    refine ⟨(S128_1 a0 (A.num .add .i64 n5 1)), List.length xs - (i + 1), ?_, by cbv, i + 1, (A.num .add .i64 n5 1), rfl, ?_, rfl⟩
    ·
     omega
    ·
     exact ⟨by rw [add_i64 hA (by omega) (by omega)]; omega, by omega⟩
  ·
   have ec2 : (A.rlen a0) ≤ n5 := lss_f hA c2
   refine go_exit ⟨fun _ => ?_, fun h => absurd rfl h⟩
   refine gs (gr (ra hA 1 (by cbv) (od ?_)))
   refine go_ret ⟨_, by cbv, ?_⟩
   show _ = (PV.bool true)
   rfl
theorem r_laws_eqBox (A : Alg) (hA : A = std) (x : GBox) (hk : ∀ k ∈ zsBox x, (k : Int) ≤ 4611686018427387904) : Real Try.prog 123 [.agg (eBox x), .agg (eBox x)] (.bool true) := by
 obtain ⟨c0, a4, l1, k1, g2⟩ := x
 obtain ⟨a3, a5⟩ := nm (g2.map eMail)
 have m0 := rlen_map hA a5
 refine real_args (args' := [.agg [.int .i64 c0, .str a4, .str l1, .int .i64 k1, .sl 3 a3], .agg [.int .i64 c0, .str a4, .str l1, .int .i64 k1, .sl 3 a3]]) (by subst a5; rfl) ?_
 refine real tyOk Try.func123 (by kernel_rfl) (afun_of rfl ?_)
 refine gs (gr (ra hA 3 (by cbv) (od ?_)))
 refine gs (gs (gr (ra hA 5 (by cbv) (od ?_))))
 refine go_cond rfl (fun c1 => ?_) (fun c1 => ?_)
 ·
  exact no_t c1 (show (A.cmp .neq c0 c0) = false from by subst hA; simp [std])
 ·
  refine gk (gs (gs (gr (ra hA 5 (by cbv) (od ?_)))))
  refine go_cond rfl (fun c2 => ?_) (fun c2 => ?_)
  ·
   exact no_t c2 (show (A.scmp .neq a4 a4) = false from by subst hA; simp [std])
  ·
   refine gk (gs (gs (gr (ra hA 5 (by cbv) (od ?_)))))
   refine go_cond rfl (fun c3 => ?_) (fun c3 => ?_)
   ·
    exact no_t c3 (show (A.scmp .neq l1 l1) = false from by subst hA; simp [std])
   ·
    refine gk (gs (gs (gr (ra hA 5 (by cbv) (od ?_)))))
    refine go_cond rfl (fun c4 => ?_) (fun c4 => ?_)
    ·
     exact no_t c4 (show (A.cmp .neq k1 k1) = false from by subst hA; simp [std])
    ·
     refine gk (gs (gs (gr (ra hA 4 (by cbv) ?_))))
     have hc6 : Real Try.prog 128 [.sl 3 a3, .sl 3 a3] (.bool true) := by subst a5; exact r_laws_eqMailS A hA g2 (fun k h => hk k (by simp only [zsBox, List.mem_append]; simp only [h, true_or, or_true]))
     refine ops_callV rfl rfl (by cbv) (by cbv) hc6 (.inr rfl) (by cbv) ?_
     refine ra hA 1 (by cbv) (od ?_)
     refine go_cond rfl (fun c7 => ?_) (fun c7 => ?_)
     ·
      exact no_t c7 (show (A.bnot true) = false from by subst hA; rfl)
     ·
      refine gk (gs (gr (ra hA 1 (by cbv) (od ?_))))
      refine go_ret ⟨_, by cbv, ?_⟩
      show _ = (PV.bool true)
      rfl
def S84_1 (p0 : RR) (p1 : Int) : St := { sl := [.sl 5 p0, .sl 5 p0, .bad, .bad, .bad, .int .i64 p1, .bad, .bad, .bad, .bad, .bad, .bad, .bad, .bad, .bad, .bad, .bad, .bad, .bad, .bad, .bad, .bad, .bad, .bad, .bad, .bad, .bad], bl := [] }
theorem r_laws_eqBoxS (A : Alg) (hA : A = std) (xs : List GBox) (hk : ∀ k ∈ zsBoxS xs, (k : Int) ≤ 4611686018427387904) : Real Try.prog 84 [.sl 5 (List.map eBox xs), .sl 5 (List.map eBox xs)] (.bool true) := by
 obtain ⟨a0, a1⟩ := nm (xs.map eBox)
 have k6 := rlen_map hA a1
 refine real_args (args' := [.sl 5 a0, .sl 5 a0]) (by subst a1; rfl) ?_
 have hlen : (List.length xs : Int) ≤ 4611686018427387904 := hk _ (by simp [zsBoxS])
 refine real tyOk Try.func84 (by kernel_rfl) (afun_of rfl ?_)
 refine gs (gr (ra hA 1 (by cbv) (od ?_)))
 refine gs (gs (gr (ra hA 5 (by cbv) (od ?_))))
 refine go_cond rfl (fun c1 => ?_) (fun c1 => ?_)
 ·
  exact no_t c1 (show (A.cmp .neq (A.rlen a0) (A.rlen a0)) = false from by subst hA; simp [std])
 ·
  refine gk (gs (gs (gr (ra hA 1 (by cbv) (od ?_)))))
  refine go_block ?_
  refine go_loopE (fun σ m => ∃ (i : Nat) (n5 : Int), σ = (S84_1 a0 n5) ∧ (n5 = (i : Int) ∧ i ≤ List.length xs) ∧ m = List.length xs - i) _ [] [0, 1, 5] [] (S84_1 a0 0) rfl (by cbv) ⟨0, 0, rfl, ?_, rfl⟩ (fun σ m hI => ?_)
  ·
   exact ⟨rfl, Nat.zero_le _⟩
  obtain ⟨i, n5, rfl, ⟨hn5, hi⟩, rfl⟩ := hI
  refine gs (gs (gr (ra hA 4 (by cbv) (od ?_))))
  refine go_cond rfl (fun c2 => ?_) (fun c2 => ?_)
  ·
   have ec2 : n5 < (A.rlen a0) := lss_t hA c2
   refine gk (gs ?_)
   refine go_block ?_
   refine gs ?_
   refine go_draw (by cbv) ?_
   refine rd hA 2 (by cbv) ?_
   have b3 : (0 : Int) ≤ n5 := by
    omega
   have f8 : (Int.toNat n5) < List.length xs := by
    omega
   obtain ⟨x3, hx3⟩ : ∃ x, (xs)[(Int.toNat n5)]? = some x := ⟨_, List.getElem?_eq_getElem f8⟩
   have i7 := List.mem_of_getElem? hx3
   obtain ⟨g9, j3, j2, j1, l7⟩ := x3
   obtain ⟨g5, g0⟩ := nm (l7.map eMail)
   have n8 := rlen_map hA g0
   have b0 : a0[(Int.toNat n5)]? = some [.int .i64 g9, .str j3, .str j2, .int .i64 j1, .sl 3 g5] := by
    subst g0; exact map_at eBox a1 hx3
   have hkx := fun (k : Nat) h => hk k (List.mem_cons_of_mem _ (List.mem_flatMap.2 ⟨_, i7, h⟩))
   refine dops_step rfl rfl rfl (idx_sl rfl rfl rfl rfl rfl b3 rfl b0) ?_
   refine rd hA 3 (by cbv) ?_
   refine dops_step rfl rfl rfl (idx_sl rfl rfl rfl rfl rfl b3 rfl b0) ?_
   refine rd hA 1 (by cbv) ?_
   have hc5 : Real Try.prog 123 [.agg [.int .i64 g9, .str j3, .str j2, .int .i64 j1, .sl 3 g5], .agg [.int .i64 g9, .str j3, .str j2, .int .i64 j1, .sl 3 g5]] (.bool true) := by subst g0; exact r_laws_eqBox A hA (⟨g9, j3, j2, j1, l7⟩ : GBox) hkx
   refine dops_callV rfl rfl (by cbv) (by cbv) hc5 (.inr rfl) ?_
   refine rd hA 1 (by cbv) (dd_ ?_)
   refine go_cond rfl (fun c6 => ?_) (fun c6 => ?_)
   ·
    exact no_t c6 (show (A.bnot true) = false from by subst hA; rfl)
   ·
    refine gk (gr (ra hA 3 (by cbv) (od ?_)))
    refine ⟨(S84_1 a0 (A.num .add .i64 n5 1)), List.length xs - (i + 1), ?_, by cbv, i + 1, (A.num .add .i64 n5 1), rfl, ?_, rfl⟩
    ·
     omega
    ·
     exact ⟨by rw [add_i64 hA (by omega) (by omega)]; omega, by omega⟩
  ·
   have ec2 : (A.rlen a0) ≤ n5 := lss_f hA c2
   refine go_exit ⟨fun _ => ?_, fun h => absurd rfl h⟩
   refine gs (gr (ra hA 1 (by cbv) (od ?_)))
   refine go_ret ⟨_, by cbv, ?_⟩
   show _ = (PV.bool true)
   rfl
theorem r_laws_eqState (A : Alg) (hA : A = std) (x : GState) (hk : ∀ k ∈ zsState x, (k : Int) ≤ 4611686018427387904) : Real Try.prog 51 [.agg (eState x), .agg (eState x)] (.bool true) := by
 obtain ⟨l8⟩ := x
 obtain ⟨f9, g3⟩ := nm (l8.map eBox)
 have n9 := rlen_map hA g3
 refine real_args (args' := [.agg [.sl 5 f9], .agg [.sl 5 f9]]) (by subst g3; rfl) ?_
 refine real tyOk Try.func51 (by kernel_rfl) (afun_of rfl ?_)
 refine gs (gr (ra hA 3 (by cbv) (od ?_)))
 refine gs (gs (gr (ra hA 4 (by cbv) ?_)))
 have hc2 : Real Try.prog 84 [.sl 5 f9, .sl 5 f9] (.bool true) := by subst g3; exact r_laws_eqBoxS A hA l8 (fun k h => hk k (by simp only [zsState, List.mem_append]; simp only [h, true_or, or_true]))
 refine ops_callV rfl rfl (by cbv) (by cbv) hc2 (.inr rfl) (by cbv) ?_
 refine ra hA 1 (by cbv) (od ?_)
 refine go_cond rfl (fun c3 => ?_) (fun c3 => ?_)
 ·
  exact no_t c3 (show (A.bnot true) = false from by subst hA; rfl)
 ·
  refine gk (gs (gr (ra hA 1 (by cbv) (od ?_))))
  refine go_ret ⟨_, by cbv, ?_⟩
  show _ = (PV.bool true)
  rfl
theorem r_laws_eqBring (A : Alg) (hA : A = std) (x : GBring) (hk : ∀ k ∈ zsBring x, (k : Int) ≤ 4611686018427387904) : Real Try.prog 91 [.agg (eBring x), .agg (eBring x)] (.bool true) := by
 obtain ⟨a2, l0, n7, m1⟩ := x
 obtain ⟨k9, l2⟩ := nm (n7.map eString)
 have o4 := rlen_map hA l2
 obtain ⟨g4, i5⟩ := nm (m1.map eString)
 have o1 := rlen_map hA i5
 refine real_args (args' := [.agg [.int .i64 a2, .str l0, .sl 1 k9, .sl 1 g4], .agg [.int .i64 a2, .str l0, .sl 1 k9, .sl 1 g4]]) (by subst l2 i5; rfl) ?_
 refine real tyOk Try.func91 (by kernel_rfl) (afun_of rfl ?_)
 refine gs (gr (ra hA 3 (by cbv) (od ?_)))
 refine gs (gs (gr (ra hA 5 (by cbv) (od ?_))))
 refine go_cond rfl (fun c1 => ?_) (fun c1 => ?_)
 ·
  exact no_t c1 (show (A.cmp .neq a2 a2) = false from by subst hA; simp [std])
 ·
  refine gk (gs (gs (gr (ra hA 5 (by cbv) (od ?_)))))
  refine go_cond rfl (fun c2 => ?_) (fun c2 => ?_)
  ·
   exact no_t c2 (show (A.scmp .neq l0 l0) = false from by subst hA; simp [std])
  ·
   refine gk (gs (gs (gr (ra hA 4 (by cbv) ?_))))
   have hc4 : Real Try.prog 35 [.sl 1 k9, .sl 1 k9] (.bool true) := by subst l2; exact r_laws_eqStringS A hA n7 (fun k h => hk k (by simp only [zsBring, List.mem_append]; simp only [h, true_or, or_true]))
   refine ops_callV rfl rfl (by cbv) (by cbv) hc4 (.inr rfl) (by cbv) ?_
   refine ra hA 1 (by cbv) (od ?_)
   refine go_cond rfl (fun c5 => ?_) (fun c5 => ?_)
   ·
    exact no_t c5 (show (A.bnot true) = false from by subst hA; rfl)
   ·
    refine gk (gs (gs (gr (ra hA 4 (by cbv) ?_))))
    have hc7 : Real Try.prog 35 [.sl 1 g4, .sl 1 g4] (.bool true) := by subst i5; exact r_laws_eqStringS A hA m1 (fun k h => hk k (by simp only [zsBring, List.mem_append]; simp only [h, true_or, or_true]))
    refine ops_callV rfl rfl (by cbv) (by cbv) hc7 (.inr rfl) (by cbv) ?_
    refine ra hA 1 (by cbv) (od ?_)
    refine go_cond rfl (fun c8 => ?_) (fun c8 => ?_)
    ·
     exact no_t c8 (show (A.bnot true) = false from by subst hA; rfl)
    ·
     refine gk (gs (gr (ra hA 1 (by cbv) (od ?_))))
     refine go_ret ⟨_, by cbv, ?_⟩
     show _ = (PV.bool true)
     rfl
def S129_1 (p0 : RR) (p1 : Int) : St := { sl := [.sl 1 p0, .sl 1 p0, .bad, .bad, .bad, .int .i64 p1, .bad, .bad, .bad, .bad, .bad, .bad, .bad, .bad, .bad, .bad, .bad, .bad, .bad, .bad, .bad, .bad, .bad, .bad, .bad, .bad], bl := [] }
theorem r_laws_eqBoolS (A : Alg) (hA : A = std) (xs : List Bool) (hk : ∀ k ∈ zsBoolS xs, (k : Int) ≤ 4611686018427387904) : Real Try.prog 129 [.sl 1 (List.map eBool xs), .sl 1 (List.map eBool xs)] (.bool true) := by
 obtain ⟨a0, a1⟩ := nm (xs.map eBool)
 have k6 := rlen_map hA a1
 refine real_args (args' := [.sl 1 a0, .sl 1 a0]) (by subst a1; rfl) ?_
 have hlen : (List.length xs : Int) ≤ 4611686018427387904 := hk _ (by simp [zsBoolS])
 refine real tyOk Try.func129 (by kernel_rfl) (afun_of rfl ?_)
 refine gs (gr (ra hA 1 (by cbv) (od ?_)))
 refine gs (gs (gr (ra hA 5 (by cbv) (od ?_))))
 refine go_cond rfl (fun c1 => ?_) (fun c1 => ?_)
 ·
  exact no_t c1 (show (A.cmp .neq (A.rlen a0) (A.rlen a0)) = false from by subst hA; simp [std])
 ·
  refine gk (gs (gs (gr (ra hA 1 (by cbv) (od ?_)))))
  refine go_block ?_
  refine go_loopE (fun σ m => ∃ (i : Nat) (n5 : Int), σ = (S129_1 a0 n5) ∧ (n5 = (i : Int) ∧ i ≤ List.length xs) ∧ m = List.length xs - i) _ [] [0, 1, 5] [] (S129_1 a0 0) rfl (by cbv) ⟨0, 0, rfl, ?_, rfl⟩ (fun σ m hI => ?_)
  ·
   exact ⟨rfl, Nat.zero_le _⟩
  obtain ⟨i, n5, rfl, ⟨hn5, hi⟩, rfl⟩ := hI
  refine gs (gs (gr (ra hA 4 (by cbv) (od ?_))))
  refine go_cond rfl (fun c2 => ?_) (fun c2 => ?_)
  ·
   have ec2 : n5 < (A.rlen a0) := lss_t hA c2
   refine gk (gs ?_)
   refine go_block ?_
   refine gs ?_
   refine go_draw (by cbv) ?_
   refine rd hA 2 (by cbv) ?_
   have b3 : (0 : Int) ≤ n5 := by
    omega
   have f8 : (Int.toNat n5) < List.length xs := by
    omega
   obtain ⟨x3, hx3⟩ : ∃ x, (xs)[(Int.toNat n5)]? = some x := ⟨_, List.getElem?_eq_getElem f8⟩
   have i7 := List.mem_of_getElem? hx3
   have b0 : a0[(Int.toNat n5)]? = some [.bool x3] := by
    exact map_at eBool a1 hx3
   refine dops_step rfl rfl rfl (idx_sl rfl rfl rfl rfl rfl b3 rfl b0) ?_
   refine rd hA 3 (by cbv) ?_
   refine dops_step rfl rfl rfl (idx_sl rfl rfl rfl rfl rfl b3 rfl b0) ?_
   refine rd hA 2 (by cbv) (dd_ ?_)
   refine go_cond rfl (fun c4 => ?_) (fun c4 => ?_)
   ·
    exact no_t c4 (show (A.bnot (A.beq x3 x3)) = false from by subst hA; simp [std])
   ·
    refine gk (gr (ra hA 3 (by cbv) (od ?_)))
    refine ⟨(S129_1 a0 (A.num .add .i64 n5 1)), List.length xs - (i + 1), ?_, by cbv, i + 1, (A.num .add .i64 n5 1), rfl, ?_, rfl⟩
    ·
     omega
    ·
     exact ⟨by rw [add_i64 hA (by omega) (by omega)]; omega, by omega⟩
  ·
   have ec2 : (A.rlen a0) ≤ n5 := lss_f hA c2
   refine go_exit ⟨fun _ => ?_, fun h => absurd rfl h⟩
   refine gs (gr (ra hA 1 (by cbv) (od ?_)))
   refine go_ret ⟨_, by cbv, ?_⟩
   show _ = (PV.bool true)
   rfl
theorem r_laws_eqFetch (A : Alg) (hA : A = std) (x : GFetch) (hk : ∀ k ∈ zsFetch x, (k : Int) ≤ 4611686018427387904) : Real Try.prog 92 [.agg (eFetch x), .agg (eFetch x)] (.bool true) := by
 obtain ⟨a2, a4, g2, m2⟩ := x
 obtain ⟨a3, a5⟩ := nm (g2.map eMail)
 have m0 := rlen_map hA a5
 obtain ⟨g8, i4⟩ := nm (m2.map eBool)
 have o2 := rlen_map hA i4
 refine real_args (args' := [.agg [.int .i64 a2, .str a4, .sl 3 a3, .sl 1 g8], .agg [.int .i64 a2, .str a4, .sl 3 a3, .sl 1 g8]]) (by subst a5 i4; rfl) ?_
 refine real tyOk Try.func92 (by kernel_rfl) (afun_of rfl ?_)
 refine gs (gr (ra hA 3 (by cbv) (od ?_)))
 refine gs (gs (gr (ra hA 5 (by cbv) (od ?_))))
 refine go_cond rfl (fun c1 => ?_) (fun c1 => ?_)
 ·
  exact no_t c1 (show (A.cmp .neq a2 a2) = false from by subst hA; simp [std])
 ·
  refine gk (gs (gs (gr (ra hA 5 (by cbv) (od ?_)))))
  refine go_cond rfl (fun c2 => ?_) (fun c2 => ?_)
  ·
   exact no_t c2 (show (A.scmp .neq a4 a4) = false from by subst hA; simp [std])
  ·
   refine gk (gs (gs (gr (ra hA 4 (by cbv) ?_))))
   have hc4 : Real Try.prog 128 [.sl 3 a3, .sl 3 a3] (.bool true) := by subst a5; exact r_laws_eqMailS A hA g2 (fun k h => hk k (by simp only [zsFetch, List.mem_append]; simp only [h, true_or, or_true]))
   refine ops_callV rfl rfl (by cbv) (by cbv) hc4 (.inr rfl) (by cbv) ?_
   refine ra hA 1 (by cbv) (od ?_)
   refine go_cond rfl (fun c5 => ?_) (fun c5 => ?_)
   ·
    exact no_t c5 (show (A.bnot true) = false from by subst hA; rfl)
   ·
    refine gk (gs (gs (gr (ra hA 4 (by cbv) ?_))))
    have hc7 : Real Try.prog 129 [.sl 1 g8, .sl 1 g8] (.bool true) := by subst i4; exact r_laws_eqBoolS A hA m2 (fun k h => hk k (by simp only [zsFetch, List.mem_append]; simp only [h, true_or, or_true]))
    refine ops_callV rfl rfl (by cbv) (by cbv) hc7 (.inr rfl) (by cbv) ?_
    refine ra hA 1 (by cbv) (od ?_)
    refine go_cond rfl (fun c8 => ?_) (fun c8 => ?_)
    ·
     exact no_t c8 (show (A.bnot true) = false from by subst hA; rfl)
    ·
     refine gk (gs (gr (ra hA 1 (by cbv) (od ?_))))
     refine go_ret ⟨_, by cbv, ?_⟩
     show _ = (PV.bool true)
     rfl
def S70_1 (p0 : RR) (p1 : Int) : St := { sl := [.sl 1 p0, .sl 1 p0, .bad, .bad, .bad, .int .i64 p1, .bad, .bad, .bad, .bad, .bad, .bad, .bad, .bad, .bad, .bad, .bad, .bad, .bad, .bad, .bad, .bad, .bad, .bad, .bad, .bad], bl := [] }
theorem r_laws_eqIntS (A : Alg) (hA : A = std) (xs : List Int) (hk : ∀ k ∈ zsIntS xs, (k : Int) ≤ 4611686018427387904) : Real Try.prog 70 [.sl 1 (List.map eInt xs), .sl 1 (List.map eInt xs)] (.bool true) := by
 obtain ⟨a0, a1⟩ := nm (xs.map eInt)
 have k6 := rlen_map hA a1
 refine real_args (args' := [.sl 1 a0, .sl 1 a0]) (by subst a1; rfl) ?_
 have hlen : (List.length xs : Int) ≤ 4611686018427387904 := hk _ (by simp [zsIntS])
 refine real tyOk Try.func70 (by kernel_rfl) (afun_of rfl ?_)
 refine gs (gr (ra hA 1 (by cbv) (od ?_)))
 refine gs (gs (gr (ra hA 5 (by cbv) (od ?_))))
 refine go_cond rfl (fun c1 => ?_) (fun c1 => ?_)
 ·
  exact no_t c1 (show (A.cmp .neq (A.rlen a0) (A.rlen a0)) = false from by subst hA; simp [std])
 ·
  refine gk (gs (gs (gr (ra hA 1 (by cbv) (od ?_)))))
  refine go_block ?_
  refine go_loopE (fun σ m => ∃ (i : Nat) (n5 : Int), σ = (S70_1 a0 n5) ∧ (n5 = (i : Int) ∧ i ≤ List.length xs) ∧ m = List.length xs - i) _ [] [0, 1, 5] [] (S70_1 a0 0) rfl (by cbv) ⟨0, 0, rfl, ?_, rfl⟩ (fun σ m hI => ?_)
  ·
   exact ⟨rfl, Nat.zero_le _⟩
  obtain ⟨i, n5, rfl, ⟨hn5, hi⟩, rfl⟩ := hI
  refine gs (gs (gr (ra hA 4 (by cbv) (od ?_))))
  refine go_cond rfl (fun c2 => ?_) (fun c2 => ?_)
  ·
   have ec2 : n5 < (A.rlen a0) := lss_t hA c2
   refine gk (gs ?_)
   refine go_block ?_
   refine gs ?_
   refine go_draw (by cbv) ?_
   refine rd hA 2 (by cbv) ?_
   have b3 : (0 : Int) ≤ n5 := by
    omega
   have f8 : (Int.toNat n5) < List.length xs := by
    omega
   obtain ⟨x3, hx3⟩ : ∃ x, (xs)[(Int.toNat n5)]? = some x := ⟨_, List.getElem?_eq_getElem f8⟩
   have i7 := List.mem_of_getElem? hx3
   have b0 : a0[(Int.toNat n5)]? = some [.int .i64 x3] := by
    exact map_at eInt a1 hx3
   refine dops_step rfl rfl rfl (idx_sl rfl rfl rfl rfl rfl b3 rfl b0) ?_
   refine rd hA 3 (by cbv) ?_
   refine dops_step rfl rfl rfl (idx_sl rfl rfl rfl rfl rfl b3 rfl b0) ?_
   refine rd hA 2 (by cbv) (dd_ ?_)
   refine go_cond rfl (fun c4 => ?_) (fun c4 => ?_)
   ·
    exact no_t c4 (show (A.cmp .neq x3 x3) = false from by subst hA; simp [std])
   ·
    refine gk (gr (ra hA 3 (by cbv) (od ?_)))
    refine ⟨(S70_1 a0 (A.num .add .i64 n5 1)), List.length xs - (i + 1), ?_, by cbv, i + 1, (A.num .add .i64 n5 1), rfl, ?_, rfl⟩
    ·
     omega
    ·
     exact ⟨by rw [add_i64 hA (by omega) (by omega)]; omega, by omega⟩
  ·
   have ec2 : (A.rlen a0) ≤ n5 := lss_f hA c2
   refine go_exit ⟨fun _ => ?_, fun h => absurd rfl h⟩
   refine gs (gr (ra hA 1 (by cbv) (od ?_)))
   refine go_ret ⟨_, by cbv, ?_⟩
   show _ = (PV.bool true)
   rfl
theorem r_laws_eqLook (A : Alg) (hA : A = std) (x : GLook) (hk : ∀ k ∈ zsLook x, (k : Int) ≤ 4611686018427387904) : Real Try.prog 93 [.agg (eLook x), .agg (eLook x)] (.bool true) := by
 obtain ⟨a2, a4, l4, c0, m3⟩ := x
 obtain ⟨g7, i8⟩ := nm (m3.map eInt)
 have o0 := rlen_map hA i8
 refine real_args (args' := [.agg [.int .i64 a2, .str a4, .str l4, .int .i64 c0, .sl 1 g7], .agg [.int .i64 a2, .str a4, .str l4, .int .i64 c0, .sl 1 g7]]) (by subst i8; rfl) ?_
 refine real tyOk Try.func93 (by kernel_rfl) (afun_of rfl ?_)
 refine gs (gr (ra hA 3 (by cbv) (od ?_)))
 refine gs (gs (gr (ra hA 5 (by cbv) (od ?_))))
 refine go_cond rfl (fun c1 => ?_) (fun c1 => ?_)
 ·
  exact no_t c1 (show (A.cmp .neq a2 a2) = false from by subst hA; simp [std])
 ·
  refine gk (gs (gs (gr (ra hA 5 (by cbv) (od ?_)))))
  refine go_cond rfl (fun c2 => ?_) (fun c2 => ?_)
  ·
   exact no_t c2 (show (A.scmp .neq a4 a4) = false from by subst hA; simp [std])
  ·
   refine gk (gs (gs (gr (ra hA 5 (by cbv) (od ?_)))))
   refine go_cond rfl (fun c3 => ?_) (fun c3 => ?_)
   ·
    exact no_t c3 (show (A.scmp .neq l4 l4) = false from by subst hA; simp [std])
   ·
    refine gk (gs (gs (gr (ra hA 5 (by cbv) (od ?_)))))
    refine go_cond rfl (fun c4 => ?_) (fun c4 => ?_)
    ·
     exact no_t c4 (show (A.cmp .neq c0 c0) = false from by subst hA; simp [std])
    ·
     refine gk (gs (gs (gr (ra hA 4 (by cbv) ?_))))
     have hc6 : Real Try.prog 70 [.sl 1 g7, .sl 1 g7] (.bool true) := by subst i8; exact r_laws_eqIntS A hA m3 (fun k h => hk k (by simp only [zsLook, List.mem_append]; simp only [h, true_or, or_true]))
     refine ops_callV rfl rfl (by cbv) (by cbv) hc6 (.inr rfl) (by cbv) ?_
     refine ra hA 1 (by cbv) (od ?_)
     refine go_cond rfl (fun c7 => ?_) (fun c7 => ?_)
     ·
      exact no_t c7 (show (A.bnot true) = false from by subst hA; rfl)
     ·
      refine gk (gs (gr (ra hA 1 (by cbv) (od ?_))))
      refine go_ret ⟨_, by cbv, ?_⟩
      show _ = (PV.bool true)
      rfl
theorem r_laws_eqSession (A : Alg) (hA : A = std) (x : GSession) (hk : ∀ k ∈ zsSession x, (k : Int) ≤ 4611686018427387904) : Real Try.prog 56 [.agg (eSession x), .agg (eSession x)] (.bool true) := by
 obtain ⟨k7, l9, l3, k4, ⟨a6, b2, k0, j0⟩, ⟨a7, b5, i2, i9⟩, ⟨b4, d0, e6, b1, j9⟩⟩ := x
 obtain ⟨e5, f6⟩ := nm (k0.map eString)
 have n4 := rlen_map hA f6
 obtain ⟨b6, e9⟩ := nm (j0.map eString)
 have n0 := rlen_map hA e9
 obtain ⟨a8, d7⟩ := nm (i2.map eMail)
 have m7 := rlen_map hA d7
 obtain ⟨b7, e1⟩ := nm (i9.map eBool)
 have m9 := rlen_map hA e1
 obtain ⟨d3, f0⟩ := nm (j9.map eInt)
 have n2 := rlen_map hA f0
 refine real_args (args' := [.agg [.int .i64 k7, .str l9, .str l3, .bool k4, .int .i64 a6, .str b2, .sl 1 e5, .sl 1 b6, .int .i64 a7, .str b5, .sl 3 a8, .sl 1 b7, .int .i64 b4, .str d0, .str e6, .int .i64 b1, .sl 1 d3], .agg [.int .i64 k7, .str l9, .str l3, .bool k4, .int .i64 a6, .str b2, .sl 1 e5, .sl 1 b6, .int .i64 a7, .str b5, .sl 3 a8, .sl 1 b7, .int .i64 b4, .str d0, .str e6, .int .i64 b1, .sl 1 d3]]) (by subst f6 e9 d7 e1 f0; rfl) ?_
 refine real tyOk Try.func56 (by kernel_rfl) (afun_of rfl ?_)
 refine gs (gr (ra hA 3 (by cbv) (od ?_)))
 refine gs (gs (gr (ra hA 5 (by cbv) (od ?_))))
 refine go_cond rfl (fun c1 => ?_) (fun c1 => ?_)
 ·
  exact no_t c1 (show (A.cmp .neq k7 k7) = false from by subst hA; simp [std])
 ·
  refine gk (gs (gs (gr (ra hA 5 (by cbv) (od ?_)))))
  refine go_cond rfl (fun c2 => ?_) (fun c2 => ?_)
  ·
   exact no_t c2 (show (A.scmp .neq l9 l9) = false from by subst hA; simp [std])
  ·
   refine gk (gs (gs (gr (ra hA 5 (by cbv) (od ?_)))))
   refine go_cond rfl (fun c3 => ?_) (fun c3 => ?_)
   ·
    exact no_t c3 (show (A.scmp .neq l3 l3) = false from by subst hA; simp [std])
   ·
    refine gk (gs (gs (gr (ra hA 5 (by cbv) (od ?_)))))
    refine go_cond rfl (fun c4 => ?_) (fun c4 => ?_)
    ·
     exact no_t c4 (show (A.bnot (A.beq k4 k4)) = false from by subst hA; simp [std])
    ·
     refine gk (gs (gs (gr (ra hA 4 (by cbv) ?_))))
     have hc6 : Real Try.prog 91 [.agg [.int .i64 a6, .str b2, .sl 1 e5, .sl 1 b6], .agg [.int .i64 a6, .str b2, .sl 1 e5, .sl 1 b6]] (.bool true) := by subst f6 e9; exact r_laws_eqBring A hA (⟨a6, b2, k0, j0⟩ : GBring) (fun k h => hk k (by simp only [zsSession, List.mem_append]; simp only [h, true_or, or_true]))
     refine ops_callV rfl rfl (by cbv) (by cbv) hc6 (.inr rfl) (by cbv) ?_
     refine ra hA 1 (by cbv) (od ?_)
     refine go_cond rfl (fun c7 => ?_) (fun c7 => ?_)
     ·
      exact no_t c7 (show (A.bnot true) = false from by subst hA; rfl)
     ·
      refine gk (gs (gs (gr (ra hA 4 (by cbv) ?_))))
      have hc9 : Real Try.prog 92 [.agg [.int .i64 a7, .str b5, .sl 3 a8, .sl 1 b7], .agg [.int .i64 a7, .str b5, .sl 3 a8, .sl 1 b7]] (.bool true) := by subst d7 e1; exact r_laws_eqFetch A hA (⟨a7, b5, i2, i9⟩ : GFetch) (fun k h => hk k (by simp only [zsSession, List.mem_append]; simp only [h, true_or, or_true]))
      refine ops_callV rfl rfl (by cbv) (by cbv) hc9 (.inr rfl) (by cbv) ?_
      refine ra hA 1 (by cbv) (od ?_)
      refine go_cond rfl (fun c10 => ?_) (fun c10 => ?_)
      ·
       exact no_t c10 (show (A.bnot true) = false from by subst hA; rfl)
      ·
       refine gk (gs (gs (gr (ra hA 4 (by cbv) ?_))))
       have o3 : Real Try.prog 93 [.agg [.int .i64 b4, .str d0, .str e6, .int .i64 b1, .sl 1 d3], .agg [.int .i64 b4, .str d0, .str e6, .int .i64 b1, .sl 1 d3]] (.bool true) := by subst f0; exact r_laws_eqLook A hA (⟨b4, d0, e6, b1, j9⟩ : GLook) (fun k h => hk k (by simp only [zsSession, List.mem_append]; simp only [h, true_or, or_true]))
       refine ops_callV rfl rfl (by cbv) (by cbv) o3 (.inr rfl) (by cbv) ?_
       refine ra hA 1 (by cbv) (od ?_)
       refine go_cond rfl (fun c13 => ?_) (fun c13 => ?_)
       ·
        exact no_t c13 (show (A.bnot true) = false from by subst hA; rfl)
       ·
        refine gk (gs (gr (ra hA 1 (by cbv) (od ?_))))
        refine go_ret ⟨_, by cbv, ?_⟩
        show _ = (PV.bool true)
        rfl
def S24_1 (p0 : RR) (p1 : Int) : St := { sl := [.sl 17 p0, .sl 17 p0, .bad, .bad, .bad, .int .i64 p1, .bad, .bad, .bad, .bad, .bad, .bad, .bad, .bad, .bad, .bad, .bad, .bad, .bad, .bad, .bad, .bad, .bad, .bad, .bad, .bad, .bad], bl := [] }
theorem r_laws_eqSessionS (A : Alg) (hA : A = std) (xs : List GSession) (hk : ∀ k ∈ zsSessionS xs, (k : Int) ≤ 4611686018427387904) : Real Try.prog 24 [.sl 17 (List.map eSession xs), .sl 17 (List.map eSession xs)] (.bool true) := by
 obtain ⟨a0, a1⟩ := nm (xs.map eSession)
 have k6 := rlen_map hA a1
 refine real_args (args' := [.sl 17 a0, .sl 17 a0]) (by subst a1; rfl) ?_
 have hlen : (List.length xs : Int) ≤ 4611686018427387904 := hk _ (by simp [zsSessionS])
 refine real tyOk Try.func24 (by kernel_rfl) (afun_of rfl ?_)
 refine gs (gr (ra hA 1 (by cbv) (od ?_)))
 refine gs (gs (gr (ra hA 5 (by cbv) (od ?_))))
 refine go_cond rfl (fun c1 => ?_) (fun c1 => ?_)
 ·
  exact no_t c1 (show (A.cmp .neq (A.rlen a0) (A.rlen a0)) = false from by subst hA; simp [std])
 ·
  refine gk (gs (gs (gr (ra hA 1 (by cbv) (od ?_)))))
  refine go_block ?_
  refine go_loopE (fun σ m => ∃ (i : Nat) (n5 : Int), σ = (S24_1 a0 n5) ∧ (n5 = (i : Int) ∧ i ≤ List.length xs) ∧ m = List.length xs - i) _ [] [0, 1, 5] [] (S24_1 a0 0) rfl (by cbv) ⟨0, 0, rfl, ?_, rfl⟩ (fun σ m hI => ?_)
  ·
   exact ⟨rfl, Nat.zero_le _⟩
  obtain ⟨i, n5, rfl, ⟨hn5, hi⟩, rfl⟩ := hI
  refine gs (gs (gr (ra hA 4 (by cbv) (od ?_))))
  refine go_cond rfl (fun c2 => ?_) (fun c2 => ?_)
  ·
   have ec2 : n5 < (A.rlen a0) := lss_t hA c2
   refine gk (gs ?_)
   refine go_block ?_
   refine gs ?_
   refine go_draw (by cbv) ?_
   refine rd hA 2 (by cbv) ?_
   have b3 : (0 : Int) ≤ n5 := by
    omega
   have f8 : (Int.toNat n5) < List.length xs := by
    omega
   obtain ⟨x3, hx3⟩ : ∃ x, (xs)[(Int.toNat n5)]? = some x := ⟨_, List.getElem?_eq_getElem f8⟩
   have i7 := List.mem_of_getElem? hx3
   obtain ⟨j5, l5, k8, j4, ⟨b9, d5, j8, i1⟩, ⟨b8, d2, g1, i0⟩, ⟨d1, e8, f3, d4, i6⟩⟩ := x3
   obtain ⟨f7, f1⟩ := nm (j8.map eString)
   have n3 := rlen_map hA f1
   obtain ⟨e3, d8⟩ := nm (i1.map eString)
   have m8 := rlen_map hA d8
   obtain ⟨e0, c9⟩ := nm (g1.map eMail)
   have m4 := rlen_map hA c9
   obtain ⟨e2, d9⟩ := nm (i0.map eBool)
   have m6 := rlen_map hA d9
   obtain ⟨f2, e4⟩ := nm (i6.map eInt)
   have n1 := rlen_map hA e4
   have b0 : a0[(Int.toNat n5)]? = some [.int .i64 j5, .str l5, .str k8, .bool j4, .int .i64 b9, .str d5, .sl 1 f7, .sl 1 e3, .int .i64 b8, .str d2, .sl 3 e0, .sl 1 e2, .int .i64 d1, .str e8, .str f3, .int .i64 d4, .sl 1 f2] := by
    subst f1 d8 c9 d9 e4; exact map_at eSession a1 hx3
   have hkx := fun (k : Nat) h => hk k (List.mem_cons_of_mem _ (List.mem_flatMap.2 ⟨_, i7, h⟩))
   refine dops_step rfl rfl rfl (idx_sl rfl rfl rfl rfl rfl b3 rfl b0) ?_
   refine rd hA 3 (by cbv) ?_
   refine dops_step rfl rfl rfl (idx_sl rfl rfl rfl rfl rfl b3 rfl b0) ?_
   refine rd hA 1 (by cbv) ?_
   have hc5 : Real Try.prog 56 [.agg [.int .i64 j5, .str l5, .str k8, .bool j4, .int .i64 b9, .str d5, .sl 1 f7, .sl 1 e3, .int .i64 b8, .str d2, .sl 3 e0, .sl 1 e2, .int .i64 d1, .str e8, .str f3, .int .i64 d4, .sl 1 f2], .agg [.int .i64 j5, .str l5, .str k8, .bool j4, .int .i64 b9, .str d5, .sl 1 f7, .sl 1 e3, .int .i64 b8, .str d2, .sl 3 e0, .sl 1 e2, .int .i64 d1, .str e8, .str f3, .int .i64 d4, .sl 1 f2]] (.bool true) := by subst f1 d8 c9 d9 e4; exact r_laws_eqSession A hA (⟨j5, l5, k8, j4, ⟨b9, d5, j8, i1⟩, ⟨b8, d2, g1, i0⟩, ⟨d1, e8, f3, d4, i6⟩⟩ : GSession) hkx
   refine dops_callV rfl rfl (by cbv) (by cbv) hc5 (.inr rfl) ?_
   refine rd hA 1 (by cbv) (dd_ ?_)
   refine go_cond rfl (fun c6 => ?_) (fun c6 => ?_)
   ·
    exact no_t c6 (show (A.bnot true) = false from by subst hA; rfl)
   ·
    refine gk (gr (ra hA 3 (by cbv) (od ?_)))
    refine ⟨(S24_1 a0 (A.num .add .i64 n5 1)), List.length xs - (i + 1), ?_, by cbv, i + 1, (A.num .add .i64 n5 1), rfl, ?_, rfl⟩
    ·
     omega
    ·
     exact ⟨by rw [add_i64 hA (by omega) (by omega)]; omega, by omega⟩
  ·
   have ec2 : (A.rlen a0) ≤ n5 := lss_f hA c2
   refine go_exit ⟨fun _ => ?_, fun h => absurd rfl h⟩
   refine gs (gr (ra hA 1 (by cbv) (od ?_)))
   refine go_ret ⟨_, by cbv, ?_⟩
   show _ = (PV.bool true)
   rfl
theorem r_laws_eqPlain (A : Alg) (hA : A = std) (x : GPlain) (hk : ∀ k ∈ zsPlain x, (k : Int) ≤ 4611686018427387904) : Real Try.prog 34 [.agg (ePlain x), .agg (ePlain x)] (.bool true) := by
 obtain ⟨⟨i3⟩, f4, k5⟩ := x
 obtain ⟨a9, d6⟩ := nm (i3.map eBox)
 have m5 := rlen_map hA d6
 obtain ⟨e7, f5⟩ := nm (k5.map eSession)
 have n6 := rlen_map hA f5
 refine real_args (args' := [.agg [.sl 5 a9, .int .i64 f4, .sl 17 e7], .agg [.sl 5 a9, .int .i64 f4, .sl 17 e7]]) (by subst d6 f5; rfl) ?_
 refine real tyOk Try.func34 (by kernel_rfl) (afun_of rfl ?_)
 refine gs (gr (ra hA 3 (by cbv) (od ?_)))
 refine gs (gs (gr (ra hA 4 (by cbv) ?_)))
 have hc2 : Real Try.prog 51 [.agg [.sl 5 a9], .agg [.sl 5 a9]] (.bool true) := by subst d6; exact r_laws_eqState A hA (⟨i3⟩ : GState) (fun k h => hk k (by simp only [zsPlain, List.mem_append]; simp only [h, true_or, or_true]))
 refine ops_callV rfl rfl (by cbv) (by cbv) hc2 (.inr rfl) (by cbv) ?_
 refine ra hA 1 (by cbv) (od ?_)
 refine go_cond rfl (fun c3 => ?_) (fun c3 => ?_)
 ·
  exact no_t c3 (show (A.bnot true) = false from by subst hA; rfl)
 ·
  refine gk (gs (gs (gr (ra hA 5 (by cbv) (od ?_)))))
  refine go_cond rfl (fun c4 => ?_) (fun c4 => ?_)
  ·
   exact no_t c4 (show (A.cmp .neq f4 f4) = false from by subst hA; simp [std])
  ·
   refine gk (gs (gs (gr (ra hA 4 (by cbv) ?_))))
   have hc6 : Real Try.prog 24 [.sl 17 e7, .sl 17 e7] (.bool true) := by subst f5; exact r_laws_eqSessionS A hA k5 (fun k h => hk k (by simp only [zsPlain, List.mem_append]; simp only [h, true_or, or_true]))
   refine ops_callV rfl rfl (by cbv) (by cbv) hc6 (.inr rfl) (by cbv) ?_
   refine ra hA 1 (by cbv) (od ?_)
   refine go_cond rfl (fun c7 => ?_) (fun c7 => ?_)
   ·
    exact no_t c7 (show (A.bnot true) = false from by subst hA; rfl)
   ·
    refine gk (gs (gr (ra hA 1 (by cbv) (od ?_))))
    refine go_ret ⟨_, by cbv, ?_⟩
    show _ = (PV.bool true)
    rfl
end Go.Av

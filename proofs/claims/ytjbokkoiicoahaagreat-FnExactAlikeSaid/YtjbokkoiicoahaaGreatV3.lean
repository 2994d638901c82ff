/- Walks: eq of servers. -/
import Derived.Test.YtjbokkoiicoahaaGreatTy
namespace Go.Av
open Go Go.Proofs
set_option maxRecDepth 100000
set_option maxHeartbeats 4000000
set_option linter.unusedVariables false
set_option linter.unusedSimpArgs false
def S152_1 (p0 : RR) (p1 : Int) : St := { sl := [.sl 1 p0, .sl 1 p0, .bad, .bad, .bad, .ii p1, .bad, .bad, .bad, .bad, .bad, .bad, .bad, .bad, .bad, .bad, .bad, .bad, .bad, .bad, .bad, .bad, .bad, .bad, .bad, .bad], bl := [] }
theorem r_laws_eqStringS (A : Alg) (hA : A = std) (xs : List ByteArray) (hk : ∀ k ∈ zsStringS xs, (k : Int) ≤ 4611686018427387904) : Real Tryz.prog 152 [.sl 1 (List.map eString xs), .sl 1 (List.map eString xs)] (.bool true) := by
 obtain ⟨a0, a1⟩ := nm (xs.map eString)
 have n3 := rlen_map hA a1
 refine real_args (args' := [.sl 1 a0, .sl 1 a0]) (by subst a1; rfl) ?_
 have hlen : (List.length xs : Int) ≤ 4611686018427387904 := hk _ (by simp [zsStringS])
 refine real tyOk Tryz.func152 (by kernel_rfl) (afun_of rfl ?_)
 refine gx hA 1 ?_
 refine gs (gx hA 5 ?_)
 refine go_cond rfl (fun c1 => ?_) (fun c1 => ?_)
 ·
  exact no_t c1 (show (A.cmp .neq (A.rlen a0) (A.rlen a0)) = false from by subst hA; simp [std])
 refine gk (gs (gx hA 1 ?_))
 refine go_block ?_
 refine go_loopE (fun σ m => ∃ (i : Nat) (n5 : Int), σ = (S152_1 a0 n5) ∧ (n5 = (i : Int) ∧ i ≤ List.length xs) ∧ m = List.length xs - i) _ [] [0, 1, 5] [] (S152_1 a0 0) rfl (by cbv) ⟨0, 0, rfl, ?_, rfl⟩ (fun σ m hI => ?_)
 ·
  exact ⟨rfl, Nat.zero_le _⟩
 obtain ⟨i, n5, rfl, ⟨hn5, hi⟩, rfl⟩ := hI
 refine gs (gx hA 4 ?_)
 refine go_cond rfl (fun c2 => ?_) (fun c2 => ?_)
 ·
  have ec2 : n5 < (A.rlen a0) := lss_t hA c2
  refine gk (gs ?_)
  refine go_block ?_
  refine gs ?_
  refine go_draw [0, 1, 2, 3, 4, 5, 6, 7, 8] (by cbv) ?_
  refine dn_ hA 2 ?_
  have b1 : (0 : Int) ≤ n5 := by
   omega
  have e8 : (Int.toNat n5) < List.length xs := by
   omega
  obtain ⟨x3, hx3⟩ : ∃ x, (xs)[(Int.toNat n5)]? = some x := ⟨_, List.getElem?_eq_getElem e8⟩
  have j7 := List.mem_of_getElem? hx3
  have b0 : a0[(Int.toNat n5)]? = some [.str x3] := by
   exact map_at eString a1 hx3
  refine dops_step rfl rfl rfl (idx_sl rfl rfl rfl rfl rfl b1 rfl b0) ?_
  refine dn_ hA 3 ?_
  refine dops_step rfl rfl rfl (idx_sl rfl rfl rfl rfl rfl b1 rfl b0) ?_
  refine dz hA 2 ?_
  refine go_cond rfl (fun c4 => ?_) (fun c4 => ?_)
  ·
   exact no_t c4 (show (A.scmp .neq x3 x3) = false from by subst hA; simp [std])
  refine gk (gy hA 3 ?_)
  refine ⟨(S152_1 a0 (A.num .add .i64 n5 1)), List.length xs - (i + 1), ?_, by cbv, i + 1, (A.num .add .i64 n5 1), rfl, ?_, rfl⟩
  ·
   omega
  exact ⟨by rw [add_i64 hA (by omega) (by omega)]; omega, by omega⟩
 have ec2 : (A.rlen a0) ≤ n5 := lss_f hA c2
 refine go_exit ⟨fun _ => ?_, fun h => absurd rfl h⟩
 refine gx hA 1 ?_
 refine go_ret ⟨_, by cbv, ?_⟩
 show _ = (PV.bool true)
 rfl
theorem r_laws_eqWrite (A : Alg) (hA : A = std) (x : GWrite) (hk : ∀ k ∈ zsWrite x, (k : Int) ≤ 4611686018427387904) : Real Tryz.prog 184 [.agg (eWrite x), .agg (eWrite x)] (.bool true) := by
 obtain ⟨v0, c0⟩ := x
 refine real_args (args' := [.agg [.ii v0, .str c0], .agg [.ii v0, .str c0]]) (by rfl) ?_
 refine real tyOk Tryz.func184 (by kernel_rfl) (afun_of rfl ?_)
 refine gx hA 3 ?_
 refine gs (gx hA 5 ?_)
 refine go_cond rfl (fun c1 => ?_) (fun c1 => ?_)
 ·
  exact no_t c1 (show (A.cmp .neq v0 v0) = false from by subst hA; simp [std])
 refine gk (gs (gx hA 5 ?_))
 refine go_cond rfl (fun c2 => ?_) (fun c2 => ?_)
 ·
  exact no_t c2 (show (A.scmp .neq c0 c0) = false from by subst hA; simp [std])
 refine gk (gx hA 1 ?_)
 refine go_ret ⟨_, by cbv, ?_⟩
 show _ = (PV.bool true)
 rfl
def S153_1 (p0 : RR) (p1 : Int) : St := { sl := [.sl 2 p0, .sl 2 p0, .bad, .bad, .bad, .ii p1, .bad, .bad, .bad, .bad, .bad, .bad, .bad, .bad, .bad, .bad, .bad, .bad, .bad, .bad, .bad, .bad, .bad, .bad, .bad, .bad, .bad], bl := [] }
theorem r_laws_eqWriteS (A : Alg) (hA : A = std) (xs : List GWrite) (hk : ∀ k ∈ zsWriteS xs, (k : Int) ≤ 4611686018427387904) : Real Tryz.prog 153 [.sl 2 (List.map eWrite xs), .sl 2 (List.map eWrite xs)] (.bool true) := by
 obtain ⟨a0, a1⟩ := nm (xs.map eWrite)
 have n3 := rlen_map hA a1
 refine real_args (args' := [.sl 2 a0, .sl 2 a0]) (by subst a1; rfl) ?_
 have hlen : (List.length xs : Int) ≤ 4611686018427387904 := hk _ (by simp [zsWriteS])
 refine real tyOk Tryz.func153 (by kernel_rfl) (afun_of rfl ?_)
 refine gx hA 1 ?_
 refine gs (gx hA 5 ?_)
 refine go_cond rfl (fun c1 => ?_) (fun c1 => ?_)
 ·
  exact no_t c1 (show (A.cmp .neq (A.rlen a0) (A.rlen a0)) = false from by subst hA; simp [std])
 refine gk (gs (gx hA 1 ?_))
 refine go_block ?_
 refine go_loopE (fun σ m => ∃ (i : Nat) (n5 : Int), σ = (S153_1 a0 n5) ∧ (n5 = (i : Int) ∧ i ≤ List.length xs) ∧ m = List.length xs - i) _ [] [0, 1, 5] [] (S153_1 a0 0) rfl (by cbv) ⟨0, 0, rfl, ?_, rfl⟩ (fun σ m hI => ?_)
 ·
  exact ⟨rfl, Nat.zero_le _⟩
 obtain ⟨i, n5, rfl, ⟨hn5, hi⟩, rfl⟩ := hI
 refine gs (gx hA 4 ?_)
 refine go_cond rfl (fun c2 => ?_) (fun c2 => ?_)
 ·
  have ec2 : n5 < (A.rlen a0) := lss_t hA c2
  refine gk (gs ?_)
  refine go_block ?_
  refine gs ?_
  refine go_draw [0, 1, 2, 3, 4, 5, 6, 7, 8, 9] (by cbv) ?_
  refine dn_ hA 2 ?_
  have b1 : (0 : Int) ≤ n5 := by
   omega
  have e8 : (Int.toNat n5) < List.length xs := by
   omega
  obtain ⟨x3, hx3⟩ : ∃ x, (xs)[(Int.toNat n5)]? = some x := ⟨_, List.getElem?_eq_getElem e8⟩
  have j7 := List.mem_of_getElem? hx3
  obtain ⟨t4, f7⟩ := x3
  have b0 : a0[(Int.toNat n5)]? = some [.ii t4, .str f7] := by
   exact map_at eWrite a1 hx3
  have hkx := fun (k : Nat) h => hk k (List.mem_cons_of_mem _ (List.mem_flatMap.2 ⟨_, j7, h⟩))
  refine dops_step rfl rfl rfl (idx_sl rfl rfl rfl rfl rfl b1 rfl b0) ?_
  refine dn_ hA 3 ?_
  refine dops_step rfl rfl rfl (idx_sl rfl rfl rfl rfl rfl b1 rfl b0) ?_
  refine dn_ hA 1 ?_
  have hc5 : Real Tryz.prog 184 [.agg [.ii t4, .str f7], .agg [.ii t4, .str f7]] (.bool true) := by exact r_laws_eqWrite A hA (⟨t4, f7⟩ : GWrite) hkx
  refine dops_callV rfl rfl (by cbv) (by cbv) hc5 (.inr rfl) ?_
  refine dz hA 1 ?_
  refine go_cond rfl (fun c6 => ?_) (fun c6 => ?_)
  ·
   exact no_t c6 (show (A.bnot true) = false from by subst hA; rfl)
  refine gk (gy hA 3 ?_)
  refine ⟨(S153_1 a0 (A.num .add .i64 n5 1)), List.length xs - (i + 1), ?_, by cbv, i + 1, (A.num .add .i64 n5 1), rfl, ?_, rfl⟩
  ·
   omega
  exact ⟨by rw [add_i64 hA (by omega) (by omega)]; omega, by omega⟩
 have ec2 : (A.rlen a0) ≤ n5 := lss_f hA c2
 refine go_exit ⟨fun _ => ?_, fun h => absurd rfl h⟩
 refine gx hA 1 ?_
 refine go_ret ⟨_, by cbv, ?_⟩
 show _ = (PV.bool true)
 rfl
theorem r_laws_eqDisk (A : Alg) (hA : A = std) (x : GDisk) (hk : ∀ k ∈ zsDisk x, (k : Int) ≤ 4611686018427387904) : Real Tryz.prog 112 [.agg (eDisk x), .agg (eDisk x)] (.bool true) := by
 obtain ⟨t0, u5⟩ := x
 obtain ⟨l6, m9⟩ := nm (t0.map eString)
 have x6 := rlen_map hA m9
 obtain ⟨n6, p2⟩ := nm (u5.map eWrite)
 have x9 := rlen_map hA p2
 refine real_args (args' := [.agg [.sl 1 l6, .sl 2 n6], .agg [.sl 1 l6, .sl 2 n6]]) (by subst m9 p2; rfl) ?_
 refine real tyOk Tryz.func112 (by kernel_rfl) (afun_of rfl ?_)
 refine gx hA 3 ?_
 refine gs (gs (gr (rn hA 4 ?_)))
 have hc2 : Real Tryz.prog 152 [.sl 1 l6, .sl 1 l6] (.bool true) := by subst m9; exact r_laws_eqStringS A hA t0 (fun k h => hk k (by simp only [zsDisk, List.mem_append]; simp only [h, true_or, or_true]))
 refine ops_callV rfl rfl (by cbv) (by cbv) hc2 (.inr rfl) (by cbv) ?_
 refine rz hA 1 ?_
 refine go_cond rfl (fun c3 => ?_) (fun c3 => ?_)
 ·
  exact no_t c3 (show (A.bnot true) = false from by subst hA; rfl)
 refine gk (gs (gs (gr (rn hA 4 ?_))))
 have hc5 : Real Tryz.prog 153 [.sl 2 n6, .sl 2 n6] (.bool true) := by subst p2; exact r_laws_eqWriteS A hA u5 (fun k h => hk k (by simp only [zsDisk, List.mem_append]; simp only [h, true_or, or_true]))
 refine ops_callV rfl rfl (by cbv) (by cbv) hc5 (.inr rfl) (by cbv) ?_
 refine rz hA 1 ?_
 refine go_cond rfl (fun c6 => ?_) (fun c6 => ?_)
 ·
  exact no_t c6 (show (A.bnot true) = false from by subst hA; rfl)
 refine gk (gx hA 1 ?_)
 refine go_ret ⟨_, by cbv, ?_⟩
 show _ = (PV.bool true)
 rfl
theorem r_laws_eqRec (A : Alg) (hA : A = std) (x : GRec) (hk : ∀ k ∈ zsRec x, (k : Int) ≤ 4611686018427387904) : Real Tryz.prog 209 [.agg (eRec x), .agg (eRec x)] (.bool true) := by
 obtain ⟨k0, b3, m5, k5, f6, a5, i7, c0⟩ := x
 refine real_args (args' := [.agg [.ii k0, .ii b3, .ii m5, .ii k5, .ii f6, .str a5, .str i7, .str c0], .agg [.ii k0, .ii b3, .ii m5, .ii k5, .ii f6, .str a5, .str i7, .str c0]]) (by rfl) ?_
 refine real tyOk Tryz.func209 (by kernel_rfl) (afun_of rfl ?_)
 refine gx hA 3 ?_
 refine gs (gx hA 5 ?_)
 refine go_cond rfl (fun c1 => ?_) (fun c1 => ?_)
 ·
  exact no_t c1 (show (A.cmp .neq k0 k0) = false from by subst hA; simp [std])
 refine gk (gs (gx hA 5 ?_))
 refine go_cond rfl (fun c2 => ?_) (fun c2 => ?_)
 ·
  exact no_t c2 (show (A.cmp .neq b3 b3) = false from by subst hA; simp [std])
 refine gk (gs (gx hA 5 ?_))
 refine go_cond rfl (fun c3 => ?_) (fun c3 => ?_)
 ·
  exact no_t c3 (show (A.cmp .neq m5 m5) = false from by subst hA; simp [std])
 refine gk (gs (gx hA 5 ?_))
 refine go_cond rfl (fun c4 => ?_) (fun c4 => ?_)
 ·
  exact no_t c4 (show (A.cmp .neq k5 k5) = false from by subst hA; simp [std])
 refine gk (gs (gx hA 5 ?_))
 refine go_cond rfl (fun c5 => ?_) (fun c5 => ?_)
 ·
  exact no_t c5 (show (A.cmp .neq f6 f6) = false from by subst hA; simp [std])
 refine gk (gs (gx hA 5 ?_))
 refine go_cond rfl (fun c6 => ?_) (fun c6 => ?_)
 ·
  exact no_t c6 (show (A.scmp .neq a5 a5) = false from by subst hA; simp [std])
 refine gk (gs (gx hA 5 ?_))
 refine go_cond rfl (fun c7 => ?_) (fun c7 => ?_)
 ·
  exact no_t c7 (show (A.scmp .neq i7 i7) = false from by subst hA; simp [std])
 refine gk (gs (gx hA 5 ?_))
 refine go_cond rfl (fun c8 => ?_) (fun c8 => ?_)
 ·
  exact no_t c8 (show (A.scmp .neq c0 c0) = false from by subst hA; simp [std])
 refine gk (gx hA 1 ?_)
 refine go_ret ⟨_, by cbv, ?_⟩
 show _ = (PV.bool true)
 rfl
theorem r_laws_eqItem (A : Alg) (hA : A = std) (x : GItem) (hk : ∀ k ∈ zsItem x, (k : Int) ≤ 4611686018427387904) : Real Tryz.prog 195 [.agg (eItem x), .agg (eItem x)] (.bool true) := by
 obtain ⟨t7, ⟨j6, g3, m1, k1, g4, j3, k2, j9⟩⟩ := x
 refine real_args (args' := [.agg [.ii t7, .ii j6, .ii g3, .ii m1, .ii k1, .ii g4, .str j3, .str k2, .str j9], .agg [.ii t7, .ii j6, .ii g3, .ii m1, .ii k1, .ii g4, .str j3, .str k2, .str j9]]) (by rfl) ?_
 refine real tyOk Tryz.func195 (by kernel_rfl) (afun_of rfl ?_)
 refine gx hA 3 ?_
 refine gs (gx hA 5 ?_)
 refine go_cond rfl (fun c1 => ?_) (fun c1 => ?_)
 ·
  exact no_t c1 (show (A.cmp .neq t7 t7) = false from by subst hA; simp [std])
 refine gk (gs (gs (gr (rn hA 4 ?_))))
 have hc3 : Real Tryz.prog 209 [.agg [.ii j6, .ii g3, .ii m1, .ii k1, .ii g4, .str j3, .str k2, .str j9], .agg [.ii j6, .ii g3, .ii m1, .ii k1, .ii g4, .str j3, .str k2, .str j9]] (.bool true) := by exact r_laws_eqRec A hA (⟨j6, g3, m1, k1, g4, j3, k2, j9⟩ : GRec) (fun k h => hk k (by simp only [zsItem, List.mem_append]; simp only [h, true_or, or_true]))
 refine ops_callV rfl rfl (by cbv) (by cbv) hc3 (.inr rfl) (by cbv) ?_
 refine rz hA 1 ?_
 refine go_cond rfl (fun c4 => ?_) (fun c4 => ?_)
 ·
  exact no_t c4 (show (A.bnot true) = false from by subst hA; rfl)
 refine gk (gx hA 1 ?_)
 refine go_ret ⟨_, by cbv, ?_⟩
 show _ = (PV.bool true)
 rfl
def S185_1 (p0 : RR) (p1 : Int) : St := { sl := [.sl 9 p0, .sl 9 p0, .bad, .bad, .bad, .ii p1, .bad, .bad, .bad, .bad, .bad, .bad, .bad, .bad, .bad, .bad, .bad, .bad, .bad, .bad, .bad, .bad, .bad, .bad, .bad, .bad, .bad], bl := [] }
theorem r_laws_eqItemS (A : Alg) (hA : A = std) (xs : List GItem) (hk : ∀ k ∈ zsItemS xs, (k : Int) ≤ 4611686018427387904) : Real Tryz.prog 185 [.sl 9 (List.map eItem xs), .sl 9 (List.map eItem xs)] (.bool true) := by
 obtain ⟨a0, a1⟩ := nm (xs.map eItem)
 have n3 := rlen_map hA a1
 refine real_args (args' := [.sl 9 a0, .sl 9 a0]) (by subst a1; rfl) ?_
 have hlen : (List.length xs : Int) ≤ 4611686018427387904 := hk _ (by simp [zsItemS])
 refine real tyOk Tryz.func185 (by kernel_rfl) (afun_of rfl ?_)
 refine gx hA 1 ?_
 refine gs (gx hA 5 ?_)
 refine go_cond rfl (fun c1 => ?_) (fun c1 => ?_)
 ·
  exact no_t c1 (show (A.cmp .neq (A.rlen a0) (A.rlen a0)) = false from by subst hA; simp [std])
 refine gk (gs (gx hA 1 ?_))
 refine go_block ?_
 refine go_loopE (fun σ m => ∃ (i : Nat) (n5 : Int), σ = (S185_1 a0 n5) ∧ (n5 = (i : Int) ∧ i ≤ List.length xs) ∧ m = List.length xs - i) _ [] [0, 1, 5] [] (S185_1 a0 0) rfl (by cbv) ⟨0, 0, rfl, ?_, rfl⟩ (fun σ m hI => ?_)
 ·
  exact ⟨rfl, Nat.zero_le _⟩
 obtain ⟨i, n5, rfl, ⟨hn5, hi⟩, rfl⟩ := hI
 refine gs (gx hA 4 ?_)
 refine go_cond rfl (fun c2 => ?_) (fun c2 => ?_)
 ·
  have ec2 : n5 < (A.rlen a0) := lss_t hA c2
  refine gk (gs ?_)
  refine go_block ?_
  refine gs ?_
  refine go_draw [0, 1, 2, 3, 4, 5, 6, 7, 8, 9] (by cbv) ?_
  refine dn_ hA 2 ?_
  have b1 : (0 : Int) ≤ n5 := by
   omega
  have e8 : (Int.toNat n5) < List.length xs := by
   omega
  obtain ⟨x3, hx3⟩ : ∃ x, (xs)[(Int.toNat n5)]? = some x := ⟨_, List.getElem?_eq_getElem e8⟩
  have j7 := List.mem_of_getElem? hx3
  obtain ⟨s1, ⟨l8, k6, m6, l9, j1, l3, l4, l7⟩⟩ := x3
  have b0 : a0[(Int.toNat n5)]? = some [.ii s1, .ii l8, .ii k6, .ii m6, .ii l9, .ii j1, .str l3, .str l4, .str l7] := by
   exact map_at eItem a1 hx3
  have hkx := fun (k : Nat) h => hk k (List.mem_cons_of_mem _ (List.mem_flatMap.2 ⟨_, j7, h⟩))
  refine dops_step rfl rfl rfl (idx_sl rfl rfl rfl rfl rfl b1 rfl b0) ?_
  refine dn_ hA 3 ?_
  refine dops_step rfl rfl rfl (idx_sl rfl rfl rfl rfl rfl b1 rfl b0) ?_
  refine dn_ hA 1 ?_
  have hc5 : Real Tryz.prog 195 [.agg [.ii s1, .ii l8, .ii k6, .ii m6, .ii l9, .ii j1, .str l3, .str l4, .str l7], .agg [.ii s1, .ii l8, .ii k6, .ii m6, .ii l9, .ii j1, .str l3, .str l4, .str l7]] (.bool true) := by exact r_laws_eqItem A hA (⟨s1, ⟨l8, k6, m6, l9, j1, l3, l4, l7⟩⟩ : GItem) hkx
  refine dops_callV rfl rfl (by cbv) (by cbv) hc5 (.inr rfl) ?_
  refine dz hA 1 ?_
  refine go_cond rfl (fun c6 => ?_) (fun c6 => ?_)
  ·
   exact no_t c6 (show (A.bnot true) = false from by subst hA; rfl)
  refine gk (gy hA 3 ?_)
  refine ⟨(S185_1 a0 (A.num .add .i64 n5 1)), List.length xs - (i + 1), ?_, by cbv, i + 1, (A.num .add .i64 n5 1), rfl, ?_, rfl⟩
  ·
   omega
  exact ⟨by rw [add_i64 hA (by omega) (by omega)]; omega, by omega⟩
 have ec2 : (A.rlen a0) ≤ n5 := lss_f hA c2
 refine go_exit ⟨fun _ => ?_, fun h => absurd rfl h⟩
 refine gx hA 1 ?_
 refine go_ret ⟨_, by cbv, ?_⟩
 show _ = (PV.bool true)
 rfl
theorem r_laws_eqSeg (A : Alg) (hA : A = std) (x : GSeg) (hk : ∀ k ∈ zsSeg x, (k : Int) ≤ 4611686018427387904) : Real Tryz.prog 154 [.agg (eSeg x), .agg (eSeg x)] (.bool true) := by
 obtain ⟨v1, t8, u0, u7⟩ := x
 obtain ⟨n1, o3⟩ := nm (u7.map eItem)
 have y0 := rlen_map hA o3
 refine real_args (args' := [.agg [.ii v1, .ii t8, .ii u0, .sl 9 n1], .agg [.ii v1, .ii t8, .ii u0, .sl 9 n1]]) (by subst o3; rfl) ?_
 refine real tyOk Tryz.func154 (by kernel_rfl) (afun_of rfl ?_)
 refine gx hA 3 ?_
 refine gs (gx hA 5 ?_)
 refine go_cond rfl (fun c1 => ?_) (fun c1 => ?_)
 ·
  exact no_t c1 (show (A.cmp .neq v1 v1) = false from by subst hA; simp [std])
 refine gk (gs (gx hA 5 ?_))
 refine go_cond rfl (fun c2 => ?_) (fun c2 => ?_)
 ·
  exact no_t c2 (show (A.cmp .neq t8 t8) = false from by subst hA; simp [std])
 refine gk (gs (gx hA 5 ?_))
 refine go_cond rfl (fun c3 => ?_) (fun c3 => ?_)
 ·
  exact no_t c3 (show (A.cmp .neq u0 u0) = false from by subst hA; simp [std])
 refine gk (gs (gs (gr (rn hA 4 ?_))))
 have hc5 : Real Tryz.prog 185 [.sl 9 n1, .sl 9 n1] (.bool true) := by subst o3; exact r_laws_eqItemS A hA u7 (fun k h => hk k (by simp only [zsSeg, List.mem_append]; simp only [h, true_or, or_true]))
 refine ops_callV rfl rfl (by cbv) (by cbv) hc5 (.inr rfl) (by cbv) ?_
 refine rz hA 1 ?_
 refine go_cond rfl (fun c6 => ?_) (fun c6 => ?_)
 ·
  exact no_t c6 (show (A.bnot true) = false from by subst hA; rfl)
 refine gk (gx hA 1 ?_)
 refine go_ret ⟨_, by cbv, ?_⟩
 show _ = (PV.bool true)
 rfl
def S113_1 (p0 : RR) (p1 : Int) : St := { sl := [.sl 4 p0, .sl 4 p0, .bad, .bad, .bad, .ii p1, .bad, .bad, .bad, .bad, .bad, .bad, .bad, .bad, .bad, .bad, .bad, .bad, .bad, .bad, .bad, .bad, .bad, .bad, .bad, .bad, .bad], bl := [] }
theorem r_laws_eqSegS (A : Alg) (hA : A = std) (xs : List GSeg) (hk : ∀ k ∈ zsSegS xs, (k : Int) ≤ 4611686018427387904) : Real Tryz.prog 113 [.sl 4 (List.map eSeg xs), .sl 4 (List.map eSeg xs)] (.bool true) := by
 obtain ⟨a0, a1⟩ := nm (xs.map eSeg)
 have n3 := rlen_map hA a1
 refine real_args (args' := [.sl 4 a0, .sl 4 a0]) (by subst a1; rfl) ?_
 have hlen : (List.length xs : Int) ≤ 4611686018427387904 := hk _ (by simp [zsSegS])
 refine real tyOk Tryz.func113 (by kernel_rfl) (afun_of rfl ?_)
 refine gx hA 1 ?_
 refine gs (gx hA 5 ?_)
 refine go_cond rfl (fun c1 => ?_) (fun c1 => ?_)
 ·
  exact no_t c1 (show (A.cmp .neq (A.rlen a0) (A.rlen a0)) = false from by subst hA; simp [std])
 refine gk (gs (gx hA 1 ?_))
 refine go_block ?_
 refine go_loopE (fun σ m => ∃ (i : Nat) (n5 : Int), σ = (S113_1 a0 n5) ∧ (n5 = (i : Int) ∧ i ≤ List.length xs) ∧ m = List.length xs - i) _ [] [0, 1, 5] [] (S113_1 a0 0) rfl (by cbv) ⟨0, 0, rfl, ?_, rfl⟩ (fun σ m hI => ?_)
 ·
  exact ⟨rfl, Nat.zero_le _⟩
 obtain ⟨i, n5, rfl, ⟨hn5, hi⟩, rfl⟩ := hI
 refine gs (gx hA 4 ?_)
 refine go_cond rfl (fun c2 => ?_) (fun c2 => ?_)
 ·
  have ec2 : n5 < (A.rlen a0) := lss_t hA c2
  refine gk (gs ?_)
  refine go_block ?_
  refine gs ?_
  refine go_draw [0, 1, 2, 3, 4, 5, 6, 7, 8, 9] (by cbv) ?_
  refine dn_ hA 2 ?_
  have b1 : (0 : Int) ≤ n5 := by
   omega
  have e8 : (Int.toNat n5) < List.length xs := by
   omega
  obtain ⟨x3, hx3⟩ : ∃ x, (xs)[(Int.toNat n5)]? = some x := ⟨_, List.getElem?_eq_getElem e8⟩
  have j7 := List.mem_of_getElem? hx3
  obtain ⟨t3, r9, s4, u3⟩ := x3
  obtain ⟨o4, n8⟩ := nm (u3.map eItem)
  have x7 := rlen_map hA n8
  have b0 : a0[(Int.toNat n5)]? = some [.ii t3, .ii r9, .ii s4, .sl 9 o4] := by
   subst n8; exact map_at eSeg a1 hx3
  have hkx := fun (k : Nat) h => hk k (List.mem_cons_of_mem _ (List.mem_flatMap.2 ⟨_, j7, h⟩))
  refine dops_step rfl rfl rfl (idx_sl rfl rfl rfl rfl rfl b1 rfl b0) ?_
  refine dn_ hA 3 ?_
  refine dops_step rfl rfl rfl (idx_sl rfl rfl rfl rfl rfl b1 rfl b0) ?_
  refine dn_ hA 1 ?_
  have hc5 : Real Tryz.prog 154 [.agg [.ii t3, .ii r9, .ii s4, .sl 9 o4], .agg [.ii t3, .ii r9, .ii s4, .sl 9 o4]] (.bool true) := by subst n8; exact r_laws_eqSeg A hA (⟨t3, r9, s4, u3⟩ : GSeg) hkx
  refine dops_callV rfl rfl (by cbv) (by cbv) hc5 (.inr rfl) ?_
  refine dz hA 1 ?_
  refine go_cond rfl (fun c6 => ?_) (fun c6 => ?_)
  ·
   exact no_t c6 (show (A.bnot true) = false from by subst hA; rfl)
  refine gk (gy hA 3 ?_)
  refine ⟨(S113_1 a0 (A.num .add .i64 n5 1)), List.length xs - (i + 1), ?_, by cbv, i + 1, (A.num .add .i64 n5 1), rfl, ?_, rfl⟩
  ·
   omega
  exact ⟨by rw [add_i64 hA (by omega) (by omega)]; omega, by omega⟩
 have ec2 : (A.rlen a0) ≤ n5 := lss_f hA c2
 refine go_exit ⟨fun _ => ?_, fun h => absurd rfl h⟩
 refine gx hA 1 ?_
 refine go_ret ⟨_, by cbv, ?_⟩
 show _ = (PV.bool true)
 rfl
theorem r_laws_eqLog (A : Alg) (hA : A = std) (x : GLog) (hk : ∀ k ∈ zsLog x, (k : Int) ≤ 4611686018427387904) : Real Tryz.prog 66 [.agg (eLog x), .agg (eLog x)] (.bool true) := by
 obtain ⟨⟨o0, q8⟩, s3, v7, n2, n4, r4, a9⟩ := x
 obtain ⟨d6, f9⟩ := nm (o0.map eString)
 have v9 := rlen_map hA f9
 obtain ⟨f8, j0⟩ := nm (q8.map eWrite)
 have w9 := rlen_map hA j0
 obtain ⟨o5, q3⟩ := nm (v7.map eSeg)
 have y5 := rlen_map hA q3
 refine real_args (args' := [.agg [.sl 1 d6, .sl 2 f8, .ii s3, .sl 4 o5, .ii n2, .ii n4, .ii r4, .ii a9], .agg [.sl 1 d6, .sl 2 f8, .ii s3, .sl 4 o5, .ii n2, .ii n4, .ii r4, .ii a9]]) (by subst f9 j0 q3; rfl) ?_
 refine real tyOk Tryz.func66 (by kernel_rfl) (afun_of rfl ?_)
 refine gx hA 3 ?_
 refine gs (gs (gr (rn hA 4 ?_)))
 have hc2 : Real Tryz.prog 112 [.agg [.sl 1 d6, .sl 2 f8], .agg [.sl 1 d6, .sl 2 f8]] (.bool true) := by subst f9 j0; exact r_laws_eqDisk A hA (⟨o0, q8⟩ : GDisk) (fun k h => hk k (by simp only [zsLog, List.mem_append]; simp only [h, true_or, or_true]))
 refine ops_callV rfl rfl (by cbv) (by cbv) hc2 (.inr rfl) (by cbv) ?_
 refine rz hA 1 ?_
 refine go_cond rfl (fun c3 => ?_) (fun c3 => ?_)
 ·
  exact no_t c3 (show (A.bnot true) = false from by subst hA; rfl)
 refine gk (gs (gx hA 5 ?_))
 refine go_cond rfl (fun c4 => ?_) (fun c4 => ?_)
 ·
  exact no_t c4 (show (A.cmp .neq s3 s3) = false from by subst hA; simp [std])
 refine gk (gs (gs (gr (rn hA 4 ?_))))
 have hc6 : Real Tryz.prog 113 [.sl 4 o5, .sl 4 o5] (.bool true) := by subst q3; exact r_laws_eqSegS A hA v7 (fun k h => hk k (by simp only [zsLog, List.mem_append]; simp only [h, true_or, or_true]))
 refine ops_callV rfl rfl (by cbv) (by cbv) hc6 (.inr rfl) (by cbv) ?_
 refine rz hA 1 ?_
 refine go_cond rfl (fun c7 => ?_) (fun c7 => ?_)
 ·
  exact no_t c7 (show (A.bnot true) = false from by subst hA; rfl)
 refine gk (gs (gx hA 5 ?_))
 refine go_cond rfl (fun c8 => ?_) (fun c8 => ?_)
 ·
  exact no_t c8 (show (A.cmp .neq n2 n2) = false from by subst hA; simp [std])
 refine gk (gs (gx hA 5 ?_))
 refine go_cond rfl (fun c9 => ?_) (fun c9 => ?_)
 ·
  exact no_t c9 (show (A.cmp .neq n4 n4) = false from by subst hA; simp [std])
 refine gk (gs (gx hA 5 ?_))
 refine go_cond rfl (fun c10 => ?_) (fun c10 => ?_)
 ·
  exact no_t c10 (show (A.cmp .neq r4 r4) = false from by subst hA; simp [std])
 refine gk (gs (gx hA 5 ?_))
 refine go_cond rfl (fun c11 => ?_) (fun c11 => ?_)
 ·
  exact no_t c11 (show (A.cmp .neq a9 a9) = false from by subst hA; simp [std])
 refine gk (gx hA 1 ?_)
 refine go_ret ⟨_, by cbv, ?_⟩
 show _ = (PV.bool true)
 rfl
def S67_1 (p0 : RR) (p1 : Int) : St := { sl := [.sl 1 p0, .sl 1 p0, .bad, .bad, .bad, .ii p1, .bad, .bad, .bad, .bad, .bad, .bad, .bad, .bad, .bad, .bad, .bad, .bad, .bad, .bad, .bad, .bad, .bad, .bad, .bad, .bad], bl := [] }
theorem r_laws_eqIntS (A : Alg) (hA : A = std) (xs : List Int) (hk : ∀ k ∈ zsIntS xs, (k : Int) ≤ 4611686018427387904) : Real Tryz.prog 67 [.sl 1 (List.map eInt xs), .sl 1 (List.map eInt xs)] (.bool true) := by
 obtain ⟨a0, a1⟩ := nm (xs.map eInt)
 have n3 := rlen_map hA a1
 refine real_args (args' := [.sl 1 a0, .sl 1 a0]) (by subst a1; rfl) ?_
 have hlen : (List.length xs : Int) ≤ 4611686018427387904 := hk _ (by simp [zsIntS])
 refine real tyOk Tryz.func67 (by kernel_rfl) (afun_of rfl ?_)
 refine gx hA 1 ?_
 refine gs (gx hA 5 ?_)
 refine go_cond rfl (fun c1 => ?_) (fun c1 => ?_)
 ·
  exact no_t c1 (show (A.cmp .neq (A.rlen a0) (A.rlen a0)) = false from by subst hA; simp [std])
 refine gk (gs (gx hA 1 ?_))
 refine go_block ?_
 refine go_loopE (fun σ m => ∃ (i : Nat) (n5 : Int), σ = (S67_1 a0 n5) ∧ (n5 = (i : Int) ∧ i ≤ List.length xs) ∧ m = List.length xs - i) _ [] [0, 1, 5] [] (S67_1 a0 0) rfl (by cbv) ⟨0, 0, rfl, ?_, rfl⟩ (fun σ m hI => ?_)
 ·
  exact ⟨rfl, Nat.zero_le _⟩
 obtain ⟨i, n5, rfl, ⟨hn5, hi⟩, rfl⟩ := hI
 refine gs (gx hA 4 ?_)
 refine go_cond rfl (fun c2 => ?_) (fun c2 => ?_)
 ·
  have ec2 : n5 < (A.rlen a0) := lss_t hA c2
  refine gk (gs ?_)
  refine go_block ?_
  refine gs ?_
  refine go_draw [0, 1, 2, 3, 4, 5, 6, 7, 8] (by cbv) ?_
  refine dn_ hA 2 ?_
  have b1 : (0 : Int) ≤ n5 := by
   omega
  have e8 : (Int.toNat n5) < List.length xs := by
   omega
  obtain ⟨x3, hx3⟩ : ∃ x, (xs)[(Int.toNat n5)]? = some x := ⟨_, List.getElem?_eq_getElem e8⟩
  have j7 := List.mem_of_getElem? hx3
  have b0 : a0[(Int.toNat n5)]? = some [.ii x3] := by
   exact map_at eInt a1 hx3
  refine dops_step rfl rfl rfl (idx_sl rfl rfl rfl rfl rfl b1 rfl b0) ?_
  refine dn_ hA 3 ?_
  refine dops_step rfl rfl rfl (idx_sl rfl rfl rfl rfl rfl b1 rfl b0) ?_
  refine dz hA 2 ?_
  refine go_cond rfl (fun c4 => ?_) (fun c4 => ?_)
  ·
   exact no_t c4 (show (A.cmp .neq x3 x3) = false from by subst hA; simp [std])
  refine gk (gy hA 3 ?_)
  refine ⟨(S67_1 a0 (A.num .add .i64 n5 1)), List.length xs - (i + 1), ?_, by cbv, i + 1, (A.num .add .i64 n5 1), rfl, ?_, rfl⟩
  ·
   omega
  exact ⟨by rw [add_i64 hA (by omega) (by omega)]; omega, by omega⟩
 have ec2 : (A.rlen a0) ≤ n5 := lss_f hA c2
 refine go_exit ⟨fun _ => ?_, fun h => absurd rfl h⟩
 refine gx hA 1 ?_
 refine go_ret ⟨_, by cbv, ?_⟩
 show _ = (PV.bool true)
 rfl
theorem r_laws_eqStore (A : Alg) (hA : A = std) (x : GStore) (hk : ∀ k ∈ zsStore x, (k : Int) ≤ 4611686018427387904) : Real Tryz.prog 34 [.agg (eStore x), .agg (eStore x)] (.bool true) := by
 obtain ⟨⟨⟨m0, m7⟩, i8, s7, e0, d7, g1, d3⟩, u4⟩ := x
 obtain ⟨b8, d4⟩ := nm (m0.map eString)
 have u8 := rlen_map hA d4
 obtain ⟨d0, e1⟩ := nm (m7.map eWrite)
 have v4 := rlen_map hA e1
 obtain ⟨k8, m4⟩ := nm (s7.map eSeg)
 have x2 := rlen_map hA m4
 obtain ⟨n0, o8⟩ := nm (u4.map eInt)
 have y1 := rlen_map hA o8
 refine real_args (args' := [.agg [.sl 1 b8, .sl 2 d0, .ii i8, .sl 4 k8, .ii e0, .ii d7, .ii g1, .ii d3, .sl 1 n0], .agg [.sl 1 b8, .sl 2 d0, .ii i8, .sl 4 k8, .ii e0, .ii d7, .ii g1, .ii d3, .sl 1 n0]]) (by subst d4 e1 m4 o8; rfl) ?_
 refine real tyOk Tryz.func34 (by kernel_rfl) (afun_of rfl ?_)
 refine gx hA 3 ?_
 refine gs (gs (gr (rn hA 4 ?_)))
 have hc2 : Real Tryz.prog 66 [.agg [.sl 1 b8, .sl 2 d0, .ii i8, .sl 4 k8, .ii e0, .ii d7, .ii g1, .ii d3], .agg [.sl 1 b8, .sl 2 d0, .ii i8, .sl 4 k8, .ii e0, .ii d7, .ii g1, .ii d3]] (.bool true) := by subst d4 e1 m4; exact r_laws_eqLog A hA (⟨⟨m0, m7⟩, i8, s7, e0, d7, g1, d3⟩ : GLog) (fun k h => hk k (by simp only [zsStore, List.mem_append]; simp only [h, true_or, or_true]))
 refine ops_callV rfl rfl (by cbv) (by cbv) hc2 (.inr rfl) (by cbv) ?_
 refine rz hA 1 ?_
 refine go_cond rfl (fun c3 => ?_) (fun c3 => ?_)
 ·
  exact no_t c3 (show (A.bnot true) = false from by subst hA; rfl)
 refine gk (gs (gs (gr (rn hA 4 ?_))))
 have hc5 : Real Tryz.prog 67 [.sl 1 n0, .sl 1 n0] (.bool true) := by subst o8; exact r_laws_eqIntS A hA u4 (fun k h => hk k (by simp only [zsStore, List.mem_append]; simp only [h, true_or, or_true]))
 refine ops_callV rfl rfl (by cbv) (by cbv) hc5 (.inr rfl) (by cbv) ?_
 refine rz hA 1 ?_
 refine go_cond rfl (fun c6 => ?_) (fun c6 => ?_)
 ·
  exact no_t c6 (show (A.bnot true) = false from by subst hA; rfl)
 refine gk (gx hA 1 ?_)
 refine go_ret ⟨_, by cbv, ?_⟩
 show _ = (PV.bool true)
 rfl
theorem r_laws_eqBring (A : Alg) (hA : A = std) (x : GBring) (hk : ∀ k ∈ zsBring x, (k : Int) ≤ 4611686018427387904) : Real Tryz.prog 114 [.agg (eBring x), .agg (eBring x)] (.bool true) := by
 obtain ⟨b4, s8, x5, v6⟩ := x
 obtain ⟨s6, s9⟩ := nm (x5.map eString)
 have y8 := rlen_map hA s9
 obtain ⟨p4, q9⟩ := nm (v6.map eString)
 have y4 := rlen_map hA q9
 refine real_args (args' := [.agg [.ii b4, .str s8, .sl 1 s6, .sl 1 p4], .agg [.ii b4, .str s8, .sl 1 s6, .sl 1 p4]]) (by subst s9 q9; rfl) ?_
 refine real tyOk Tryz.func114 (by kernel_rfl) (afun_of rfl ?_)
 refine gx hA 3 ?_
 refine gs (gx hA 5 ?_)
 refine go_cond rfl (fun c1 => ?_) (fun c1 => ?_)
 ·
  exact no_t c1 (show (A.cmp .neq b4 b4) = false from by subst hA; simp [std])
 refine gk (gs (gx hA 5 ?_))
 refine go_cond rfl (fun c2 => ?_) (fun c2 => ?_)
 ·
  exact no_t c2 (show (A.scmp .neq s8 s8) = false from by subst hA; simp [std])
 refine gk (gs (gs (gr (rn hA 4 ?_))))
 have hc4 : Real Tryz.prog 152 [.sl 1 s6, .sl 1 s6] (.bool true) := by subst s9; exact r_laws_eqStringS A hA x5 (fun k h => hk k (by simp only [zsBring, List.mem_append]; simp only [h, true_or, or_true]))
 refine ops_callV rfl rfl (by cbv) (by cbv) hc4 (.inr rfl) (by cbv) ?_
 refine rz hA 1 ?_
 refine go_cond rfl (fun c5 => ?_) (fun c5 => ?_)
 ·
  exact no_t c5 (show (A.bnot true) = false from by subst hA; rfl)
 refine gk (gs (gs (gr (rn hA 4 ?_))))
 have hc7 : Real Tryz.prog 152 [.sl 1 p4, .sl 1 p4] (.bool true) := by subst q9; exact r_laws_eqStringS A hA v6 (fun k h => hk k (by simp only [zsBring, List.mem_append]; simp only [h, true_or, or_true]))
 refine ops_callV rfl rfl (by cbv) (by cbv) hc7 (.inr rfl) (by cbv) ?_
 refine rz hA 1 ?_
 refine go_cond rfl (fun c8 => ?_) (fun c8 => ?_)
 ·
  exact no_t c8 (show (A.bnot true) = false from by subst hA; rfl)
 refine gk (gx hA 1 ?_)
 refine go_ret ⟨_, by cbv, ?_⟩
 show _ = (PV.bool true)
 rfl
theorem r_laws_eqMail (A : Alg) (hA : A = std) (x : GMail) (hk : ∀ k ∈ zsMail x, (k : Int) ≤ 4611686018427387904) : Real Tryz.prog 186 [.agg (eMail x), .agg (eMail x)] (.bool true) := by
 obtain ⟨m5, f6, c0⟩ := x
 refine real_args (args' := [.agg [.ii m5, .ii f6, .str c0], .agg [.ii m5, .ii f6, .str c0]]) (by rfl) ?_
 refine real tyOk Tryz.func186 (by kernel_rfl) (afun_of rfl ?_)
 refine gx hA 3 ?_
 refine gs (gx hA 5 ?_)
 refine go_cond rfl (fun c1 => ?_) (fun c1 => ?_)
 ·
  exact no_t c1 (show (A.cmp .neq m5 m5) = false from by subst hA; simp [std])
 refine gk (gs (gx hA 5 ?_))
 refine go_cond rfl (fun c2 => ?_) (fun c2 => ?_)
 ·
  exact no_t c2 (show (A.cmp .neq f6 f6) = false from by subst hA; simp [std])
 refine gk (gs (gx hA 5 ?_))
 refine go_cond rfl (fun c3 => ?_) (fun c3 => ?_)
 ·
  exact no_t c3 (show (A.scmp .neq c0 c0) = false from by subst hA; simp [std])
 refine gk (gx hA 1 ?_)
 refine go_ret ⟨_, by cbv, ?_⟩
 show _ = (PV.bool true)
 rfl
def S155_1 (p0 : RR) (p1 : Int) : St := { sl := [.sl 3 p0, .sl 3 p0, .bad, .bad, .bad, .ii p1, .bad, .bad, .bad, .bad, .bad, .bad, .bad, .bad, .bad, .bad, .bad, .bad, .bad, .bad, .bad, .bad, .bad, .bad, .bad, .bad, .bad], bl := [] }
theorem r_laws_eqMailS (A : Alg) (hA : A = std) (xs : List GMail) (hk : ∀ k ∈ zsMailS xs, (k : Int) ≤ 4611686018427387904) : Real Tryz.prog 155 [.sl 3 (List.map eMail xs), .sl 3 (List.map eMail xs)] (.bool true) := by
 obtain ⟨a0, a1⟩ := nm (xs.map eMail)
 have n3 := rlen_map hA a1
 refine real_args (args' := [.sl 3 a0, .sl 3 a0]) (by subst a1; rfl) ?_
 have hlen : (List.length xs : Int) ≤ 4611686018427387904 := hk _ (by simp [zsMailS])
 refine real tyOk Tryz.func155 (by kernel_rfl) (afun_of rfl ?_)
 refine gx hA 1 ?_
 refine gs (gx hA 5 ?_)
 refine go_cond rfl (fun c1 => ?_) (fun c1 => ?_)
 ·
  exact no_t c1 (show (A.cmp .neq (A.rlen a0) (A.rlen a0)) = false from by subst hA; simp [std])
 refine gk (gs (gx hA 1 ?_))
 refine go_block ?_
 refine go_loopE (fun σ m => ∃ (i : Nat) (n5 : Int), σ = (S155_1 a0 n5) ∧ (n5 = (i : Int) ∧ i ≤ List.length xs) ∧ m = List.length xs - i) _ [] [0, 1, 5] [] (S155_1 a0 0) rfl (by cbv) ⟨0, 0, rfl, ?_, rfl⟩ (fun σ m hI => ?_)
 ·
  exact ⟨rfl, Nat.zero_le _⟩
 obtain ⟨i, n5, rfl, ⟨hn5, hi⟩, rfl⟩ := hI
 refine gs (gx hA 4 ?_)
 refine go_cond rfl (fun c2 => ?_) (fun c2 => ?_)
 ·
  have ec2 : n5 < (A.rlen a0) := lss_t hA c2
  refine gk (gs ?_)
  refine go_block ?_
  refine gs ?_
  refine go_draw [0, 1, 2, 3, 4, 5, 6, 7, 8, 9] (by cbv) ?_
  refine dn_ hA 2 ?_
  have b1 : (0 : Int) ≤ n5 := by
   omega
  have e8 : (Int.toNat n5) < List.length xs := by
   omega
  obtain ⟨x3, hx3⟩ : ∃ x, (xs)[(Int.toNat n5)]? = some x := ⟨_, List.getElem?_eq_getElem e8⟩
  have j7 := List.mem_of_getElem? hx3
  obtain ⟨r8, o7, f7⟩ := x3
  have b0 : a0[(Int.toNat n5)]? = some [.ii r8, .ii o7, .str f7] := by
   exact map_at eMail a1 hx3
  have hkx := fun (k : Nat) h => hk k (List.mem_cons_of_mem _ (List.mem_flatMap.2 ⟨_, j7, h⟩))
  refine dops_step rfl rfl rfl (idx_sl rfl rfl rfl rfl rfl b1 rfl b0) ?_
  refine dn_ hA 3 ?_
  refine dops_step rfl rfl rfl (idx_sl rfl rfl rfl rfl rfl b1 rfl b0) ?_
  refine dn_ hA 1 ?_
  have hc5 : Real Tryz.prog 186 [.agg [.ii r8, .ii o7, .str f7], .agg [.ii r8, .ii o7, .str f7]] (.bool true) := by exact r_laws_eqMail A hA (⟨r8, o7, f7⟩ : GMail) hkx
  refine dops_callV rfl rfl (by cbv) (by cbv) hc5 (.inr rfl) ?_
  refine dz hA 1 ?_
  refine go_cond rfl (fun c6 => ?_) (fun c6 => ?_)
  ·
   exact no_t c6 (show (A.bnot true) = false from by subst hA; rfl)
  refine gk (gy hA 3 ?_)
  refine ⟨(S155_1 a0 (A.num .add .i64 n5 1)), List.length xs - (i + 1), ?_, by cbv, i + 1, (A.num .add .i64 n5 1), rfl, ?_, rfl⟩
  ·
   omega
  exact ⟨by rw [add_i64 hA (by omega) (by omega)]; omega, by omega⟩
 have ec2 : (A.rlen a0) ≤ n5 := lss_f hA c2
 refine go_exit ⟨fun _ => ?_, fun h => absurd rfl h⟩
 refine gx hA 1 ?_
 refine go_ret ⟨_, by cbv, ?_⟩
 show _ = (PV.bool true)
 rfl
def S156_1 (p0 : RR) (p1 : Int) : St := { sl := [.sl 1 p0, .sl 1 p0, .bad, .bad, .bad, .ii p1, .bad, .bad, .bad, .bad, .bad, .bad, .bad, .bad, .bad, .bad, .bad, .bad, .bad, .bad, .bad, .bad, .bad, .bad, .bad, .bad], bl := [] }
theorem r_laws_eqBoolS (A : Alg) (hA : A = std) (xs : List Bool) (hk : ∀ k ∈ zsBoolS xs, (k : Int) ≤ 4611686018427387904) : Real Tryz.prog 156 [.sl 1 (List.map eBool xs), .sl 1 (List.map eBool xs)] (.bool true) := by
 obtain ⟨a0, a1⟩ := nm (xs.map eBool)
 have n3 := rlen_map hA a1
 refine real_args (args' := [.sl 1 a0, .sl 1 a0]) (by subst a1; rfl) ?_
 have hlen : (List.length xs : Int) ≤ 4611686018427387904 := hk _ (by simp [zsBoolS])
 refine real tyOk Tryz.func156 (by kernel_rfl) (afun_of rfl ?_)
 refine gx hA 1 ?_
 refine gs (gx hA 5 ?_)
 refine go_cond rfl (fun c1 => ?_) (fun c1 => ?_)
 ·
  exact no_t c1 (show (A.cmp .neq (A.rlen a0) (A.rlen a0)) = false from by subst hA; simp [std])
 refine gk (gs (gx hA 1 ?_))
 refine go_block ?_
 refine go_loopE (fun σ m => ∃ (i : Nat) (n5 : Int), σ = (S156_1 a0 n5) ∧ (n5 = (i : Int) ∧ i ≤ List.length xs) ∧ m = List.length xs - i) _ [] [0, 1, 5] [] (S156_1 a0 0) rfl (by cbv) ⟨0, 0, rfl, ?_, rfl⟩ (fun σ m hI => ?_)
 ·
  exact ⟨rfl, Nat.zero_le _⟩
 obtain ⟨i, n5, rfl, ⟨hn5, hi⟩, rfl⟩ := hI
 refine gs (gx hA 4 ?_)
 refine go_cond rfl (fun c2 => ?_) (fun c2 => ?_)
 ·
  have ec2 : n5 < (A.rlen a0) := lss_t hA c2
  refine gk (gs ?_)
  refine go_block ?_
  refine gs ?_
  refine go_draw [0, 1, 2, 3, 4, 5, 6, 7, 8] (by cbv) ?_
  refine dn_ hA 2 ?_
  have b1 : (0 : Int) ≤ n5 := by
   omega
  have e8 : (Int.toNat n5) < List.length xs := by
   omega
  obtain ⟨x3, hx3⟩ : ∃ x, (xs)[(Int.toNat n5)]? = some x := ⟨_, List.getElem?_eq_getElem e8⟩
  have j7 := List.mem_of_getElem? hx3
  have b0 : a0[(Int.toNat n5)]? = some [.bool x3] := by
   exact map_at eBool a1 hx3
  refine dops_step rfl rfl rfl (idx_sl rfl rfl rfl rfl rfl b1 rfl b0) ?_
  refine dn_ hA 3 ?_
  refine dops_step rfl rfl rfl (idx_sl rfl rfl rfl rfl rfl b1 rfl b0) ?_
  refine dz hA 2 ?_
  refine go_cond rfl (fun c4 => ?_) (fun c4 => ?_)
  ·
   exact no_t c4 (show (A.bnot (A.beq x3 x3)) = false from by subst hA; simp [std])
  refine gk (gy hA 3 ?_)
  refine ⟨(S156_1 a0 (A.num .add .i64 n5 1)), List.length xs - (i + 1), ?_, by cbv, i + 1, (A.num .add .i64 n5 1), rfl, ?_, rfl⟩
  ·
   omega
  exact ⟨by rw [add_i64 hA (by omega) (by omega)]; omega, by omega⟩
 have ec2 : (A.rlen a0) ≤ n5 := lss_f hA c2
 refine go_exit ⟨fun _ => ?_, fun h => absurd rfl h⟩
 refine gx hA 1 ?_
 refine go_ret ⟨_, by cbv, ?_⟩
 show _ = (PV.bool true)
 rfl
theorem r_laws_eqFetch (A : Alg) (hA : A = std) (x : GFetch) (hk : ∀ k ∈ zsFetch x, (k : Int) ≤ 4611686018427387904) : Real Tryz.prog 115 [.agg (eFetch x), .agg (eFetch x)] (.bool true) := by
 obtain ⟨b4, a5, o1, v8⟩ := x
 obtain ⟨d2, d5⟩ := nm (o1.map eMail)
 have v2 := rlen_map hA d5
 obtain ⟨p3, q6⟩ := nm (v8.map eBool)
 have y3 := rlen_map hA q6
 refine real_args (args' := [.agg [.ii b4, .str a5, .sl 3 d2, .sl 1 p3], .agg [.ii b4, .str a5, .sl 3 d2, .sl 1 p3]]) (by subst d5 q6; rfl) ?_
 refine real tyOk Tryz.func115 (by kernel_rfl) (afun_of rfl ?_)
 refine gx hA 3 ?_
 refine gs (gx hA 5 ?_)
 refine go_cond rfl (fun c1 => ?_) (fun c1 => ?_)
 ·
  exact no_t c1 (show (A.cmp .neq b4 b4) = false from by subst hA; simp [std])
 refine gk (gs (gx hA 5 ?_))
 refine go_cond rfl (fun c2 => ?_) (fun c2 => ?_)
 ·
  exact no_t c2 (show (A.scmp .neq a5 a5) = false from by subst hA; simp [std])
 refine gk (gs (gs (gr (rn hA 4 ?_))))
 have hc4 : Real Tryz.prog 155 [.sl 3 d2, .sl 3 d2] (.bool true) := by subst d5; exact r_laws_eqMailS A hA o1 (fun k h => hk k (by simp only [zsFetch, List.mem_append]; simp only [h, true_or, or_true]))
 refine ops_callV rfl rfl (by cbv) (by cbv) hc4 (.inr rfl) (by cbv) ?_
 refine rz hA 1 ?_
 refine go_cond rfl (fun c5 => ?_) (fun c5 => ?_)
 ·
  exact no_t c5 (show (A.bnot true) = false from by subst hA; rfl)
 refine gk (gs (gs (gr (rn hA 4 ?_))))
 have hc7 : Real Tryz.prog 156 [.sl 1 p3, .sl 1 p3] (.bool true) := by subst q6; exact r_laws_eqBoolS A hA v8 (fun k h => hk k (by simp only [zsFetch, List.mem_append]; simp only [h, true_or, or_true]))
 refine ops_callV rfl rfl (by cbv) (by cbv) hc7 (.inr rfl) (by cbv) ?_
 refine rz hA 1 ?_
 refine go_cond rfl (fun c8 => ?_) (fun c8 => ?_)
 ·
  exact no_t c8 (show (A.bnot true) = false from by subst hA; rfl)
 refine gk (gx hA 1 ?_)
 refine go_ret ⟨_, by cbv, ?_⟩
 show _ = (PV.bool true)
 rfl
theorem r_laws_eqLook (A : Alg) (hA : A = std) (x : GLook) (hk : ∀ k ∈ zsLook x, (k : Int) ≤ 4611686018427387904) : Real Tryz.prog 116 [.agg (eLook x), .agg (eLook x)] (.bool true) := by
 obtain ⟨b4, a5, t5, b3, v5⟩ := x
 obtain ⟨o6, q5⟩ := nm (v5.map eInt)
 have y6 := rlen_map hA q5
 refine real_args (args' := [.agg [.ii b4, .str a5, .str t5, .ii b3, .sl 1 o6], .agg [.ii b4, .str a5, .str t5, .ii b3, .sl 1 o6]]) (by subst q5; rfl) ?_
 refine real tyOk Tryz.func116 (by kernel_rfl) (afun_of rfl ?_)
 refine gx hA 3 ?_
 refine gs (gx hA 5 ?_)
 refine go_cond rfl (fun c1 => ?_) (fun c1 => ?_)
 ·
  exact no_t c1 (show (A.cmp .neq b4 b4) = false from by subst hA; simp [std])
 refine gk (gs (gx hA 5 ?_))
 refine go_cond rfl (fun c2 => ?_) (fun c2 => ?_)
 ·
  exact no_t c2 (show (A.scmp .neq a5 a5) = false from by subst hA; simp [std])
 refine gk (gs (gx hA 5 ?_))
 refine go_cond rfl (fun c3 => ?_) (fun c3 => ?_)
 ·
  exact no_t c3 (show (A.scmp .neq t5 t5) = false from by subst hA; simp [std])
 refine gk (gs (gx hA 5 ?_))
 refine go_cond rfl (fun c4 => ?_) (fun c4 => ?_)
 ·
  exact no_t c4 (show (A.cmp .neq b3 b3) = false from by subst hA; simp [std])
 refine gk (gs (gs (gr (rn hA 4 ?_))))
 have hc6 : Real Tryz.prog 67 [.sl 1 o6, .sl 1 o6] (.bool true) := by subst q5; exact r_laws_eqIntS A hA v5 (fun k h => hk k (by simp only [zsLook, List.mem_append]; simp only [h, true_or, or_true]))
 refine ops_callV rfl rfl (by cbv) (by cbv) hc6 (.inr rfl) (by cbv) ?_
 refine rz hA 1 ?_
 refine go_cond rfl (fun c7 => ?_) (fun c7 => ?_)
 ·
  exact no_t c7 (show (A.bnot true) = false from by subst hA; rfl)
 refine gk (gx hA 1 ?_)
 refine go_ret ⟨_, by cbv, ?_⟩
 show _ = (PV.bool true)
 rfl
theorem r_laws_eqSession (A : Alg) (hA : A = std) (x : GSession) (hk : ∀ k ∈ zsSession x, (k : Int) ≤ 4611686018427387904) : Real Tryz.prog 68 [.agg (eSession x), .agg (eSession x)] (.bool true) := by
 obtain ⟨k0, u9, t9, s2, ⟨d9, e7, s0, q2⟩, ⟨d8, f1, q0, q4⟩, ⟨e9, g2, j2, e6, r7⟩⟩ := x
 obtain ⟨i9, m3⟩ := nm (s0.map eString)
 have x4 := rlen_map hA m3
 obtain ⟨f4, k9⟩ := nm (q2.map eString)
 have w8 := rlen_map hA k9
 obtain ⟨e4, i1⟩ := nm (q0.map eMail)
 have w3 := rlen_map hA i1
 obtain ⟨f2, k7⟩ := nm (q4.map eBool)
 have w6 := rlen_map hA k7
 obtain ⟨g7, l0⟩ := nm (r7.map eInt)
 have x0 := rlen_map hA l0
 refine real_args (args' := [.agg [.ii k0, .str u9, .str t9, .bool s2, .ii d9, .str e7, .sl 1 i9, .sl 1 f4, .ii d8, .str f1, .sl 3 e4, .sl 1 f2, .ii e9, .str g2, .str j2, .ii e6, .sl 1 g7], .agg [.ii k0, .str u9, .str t9, .bool s2, .ii d9, .str e7, .sl 1 i9, .sl 1 f4, .ii d8, .str f1, .sl 3 e4, .sl 1 f2, .ii e9, .str g2, .str j2, .ii e6, .sl 1 g7]]) (by subst m3 k9 i1 k7 l0; rfl) ?_
 refine real tyOk Tryz.func68 (by kernel_rfl) (afun_of rfl ?_)
 refine gx hA 3 ?_
 refine gs (gx hA 5 ?_)
 refine go_cond rfl (fun c1 => ?_) (fun c1 => ?_)
 ·
  exact no_t c1 (show (A.cmp .neq k0 k0) = false from by subst hA; simp [std])
 refine gk (gs (gx hA 5 ?_))
 refine go_cond rfl (fun c2 => ?_) (fun c2 => ?_)
 ·
  exact no_t c2 (show (A.scmp .neq u9 u9) = false from by subst hA; simp [std])
 refine gk (gs (gx hA 5 ?_))
 refine go_cond rfl (fun c3 => ?_) (fun c3 => ?_)
 ·
  exact no_t c3 (show (A.scmp .neq t9 t9) = false from by subst hA; simp [std])
 refine gk (gs (gx hA 5 ?_))
 refine go_cond rfl (fun c4 => ?_) (fun c4 => ?_)
 ·
  exact no_t c4 (show (A.bnot (A.beq s2 s2)) = false from by subst hA; simp [std])
 refine gk (gs (gs (gr (rn hA 4 ?_))))
 have hc6 : Real Tryz.prog 114 [.agg [.ii d9, .str e7, .sl 1 i9, .sl 1 f4], .agg [.ii d9, .str e7, .sl 1 i9, .sl 1 f4]] (.bool true) := by subst m3 k9; exact r_laws_eqBring A hA (⟨d9, e7, s0, q2⟩ : GBring) (fun k h => hk k (by simp only [zsSession, List.mem_append]; simp only [h, true_or, or_true]))
 refine ops_callV rfl rfl (by cbv) (by cbv) hc6 (.inr rfl) (by cbv) ?_
 refine rz hA 1 ?_
 refine go_cond rfl (fun c7 => ?_) (fun c7 => ?_)
 ·
  exact no_t c7 (show (A.bnot true) = false from by subst hA; rfl)
 refine gk (gs (gs (gr (rn hA 4 ?_))))
 have hc9 : Real Tryz.prog 115 [.agg [.ii d8, .str f1, .sl 3 e4, .sl 1 f2], .agg [.ii d8, .str f1, .sl 3 e4, .sl 1 f2]] (.bool true) := by subst i1 k7; exact r_laws_eqFetch A hA (⟨d8, f1, q0, q4⟩ : GFetch) (fun k h => hk k (by simp only [zsSession, List.mem_append]; simp only [h, true_or, or_true]))
 refine ops_callV rfl rfl (by cbv) (by cbv) hc9 (.inr rfl) (by cbv) ?_
 refine rz hA 1 ?_
 refine go_cond rfl (fun c10 => ?_) (fun c10 => ?_)
 ·
  exact no_t c10 (show (A.bnot true) = false from by subst hA; rfl)
 refine gk (gs (gs (gr (rn hA 4 ?_))))
 have y7 : Real Tryz.prog 116 [.agg [.ii e9, .str g2, .str j2, .ii e6, .sl 1 g7], .agg [.ii e9, .str g2, .str j2, .ii e6, .sl 1 g7]] (.bool true) := by subst l0; exact r_laws_eqLook A hA (⟨e9, g2, j2, e6, r7⟩ : GLook) (fun k h => hk k (by simp only [zsSession, List.mem_append]; simp only [h, true_or, or_true]))
 refine ops_callV rfl rfl (by cbv) (by cbv) y7 (.inr rfl) (by cbv) ?_
 refine rz hA 1 ?_
 refine go_cond rfl (fun c13 => ?_) (fun c13 => ?_)
 ·
  exact no_t c13 (show (A.bnot true) = false from by subst hA; rfl)
 refine gk (gx hA 1 ?_)
 refine go_ret ⟨_, by cbv, ?_⟩
 show _ = (PV.bool true)
 rfl
def S35_1 (p0 : RR) (p1 : Int) : St := { sl := [.sl 17 p0, .sl 17 p0, .bad, .bad, .bad, .ii p1, .bad, .bad, .bad, .bad, .bad, .bad, .bad, .bad, .bad, .bad, .bad, .bad, .bad, .bad, .bad, .bad, .bad, .bad, .bad, .bad, .bad], bl := [] }
theorem r_laws_eqSessionS (A : Alg) (hA : A = std) (xs : List GSession) (hk : ∀ k ∈ zsSessionS xs, (k : Int) ≤ 4611686018427387904) : Real Tryz.prog 35 [.sl 17 (List.map eSession xs), .sl 17 (List.map eSession xs)] (.bool true) := by
 obtain ⟨a0, a1⟩ := nm (xs.map eSession)
 have n3 := rlen_map hA a1
 refine real_args (args' := [.sl 17 a0, .sl 17 a0]) (by subst a1; rfl) ?_
 have hlen : (List.length xs : Int) ≤ 4611686018427387904 := hk _ (by simp [zsSessionS])
 refine real tyOk Tryz.func35 (by kernel_rfl) (afun_of rfl ?_)
 refine gx hA 1 ?_
 refine gs (gx hA 5 ?_)
 refine go_cond rfl (fun c1 => ?_) (fun c1 => ?_)
 ·
  exact no_t c1 (show (A.cmp .neq (A.rlen a0) (A.rlen a0)) = false from by subst hA; simp [std])
 refine gk (gs (gx hA 1 ?_))
 refine go_block ?_
 refine go_loopE (fun σ m => ∃ (i : Nat) (n5 : Int), σ = (S35_1 a0 n5) ∧ (n5 = (i : Int) ∧ i ≤ List.length xs) ∧ m = List.length xs - i) _ [] [0, 1, 5] [] (S35_1 a0 0) rfl (by cbv) ⟨0, 0, rfl, ?_, rfl⟩ (fun σ m hI => ?_)
 ·
  exact ⟨rfl, Nat.zero_le _⟩
 obtain ⟨i, n5, rfl, ⟨hn5, hi⟩, rfl⟩ := hI
 refine gs (gx hA 4 ?_)
 refine go_cond rfl (fun c2 => ?_) (fun c2 => ?_)
 ·
  have ec2 : n5 < (A.rlen a0) := lss_t hA c2
  refine gk (gs ?_)
  refine go_block ?_
  refine gs ?_
  refine go_draw [0, 1, 2, 3, 4, 5, 6, 7, 8, 9] (by cbv) ?_
  refine dn_ hA 2 ?_
  have b1 : (0 : Int) ≤ n5 := by
   omega
  have e8 : (Int.toNat n5) < List.length xs := by
   omega
  obtain ⟨x3, hx3⟩ : ∃ x, (xs)[(Int.toNat n5)]? = some x := ⟨_, List.getElem?_eq_getElem e8⟩
  have j7 := List.mem_of_getElem? hx3
  obtain ⟨r5, t6, s5, r0, ⟨f5, g9, r6, q1⟩, ⟨f3, i0, o2, p7⟩, ⟨g8, j4, l5, g6, q7⟩⟩ := x3
  obtain ⟨m2, l1⟩ := nm (r6.map eString)
  have x1 := rlen_map hA l1
  obtain ⟨j5, i3⟩ := nm (q1.map eString)
  have w4 := rlen_map hA i3
  obtain ⟨i6, g0⟩ := nm (o2.map eMail)
  have w0 := rlen_map hA g0
  obtain ⟨k3, i5⟩ := nm (p7.map eBool)
  have w5 := rlen_map hA i5
  obtain ⟨l2, k4⟩ := nm (q7.map eInt)
  have w7 := rlen_map hA k4
  have b0 : a0[(Int.toNat n5)]? = some [.ii r5, .str t6, .str s5, .bool r0, .ii f5, .str g9, .sl 1 m2, .sl 1 j5, .ii f3, .str i0, .sl 3 i6, .sl 1 k3, .ii g8, .str j4, .str l5, .ii g6, .sl 1 l2] := by
   subst l1 i3 g0 i5 k4; exact map_at eSession a1 hx3
  have hkx := fun (k : Nat) h => hk k (List.mem_cons_of_mem _ (List.mem_flatMap.2 ⟨_, j7, h⟩))
  refine dops_step rfl rfl rfl (idx_sl rfl rfl rfl rfl rfl b1 rfl b0) ?_
  refine dn_ hA 3 ?_
  refine dops_step rfl rfl rfl (idx_sl rfl rfl rfl rfl rfl b1 rfl b0) ?_
  refine dn_ hA 1 ?_
  have hc5 : Real Tryz.prog 68 [.agg [.ii r5, .str t6, .str s5, .bool r0, .ii f5, .str g9, .sl 1 m2, .sl 1 j5, .ii f3, .str i0, .sl 3 i6, .sl 1 k3, .ii g8, .str j4, .str l5, .ii g6, .sl 1 l2], .agg [.ii r5, .str t6, .str s5, .bool r0, .ii f5, .str g9, .sl 1 m2, .sl 1 j5, .ii f3, .str i0, .sl 3 i6, .sl 1 k3, .ii g8, .str j4, .str l5, .ii g6, .sl 1 l2]] (.bool true) := by subst l1 i3 g0 i5 k4; exact r_laws_eqSession A hA (⟨r5, t6, s5, r0, ⟨f5, g9, r6, q1⟩, ⟨f3, i0, o2, p7⟩, ⟨g8, j4, l5, g6, q7⟩⟩ : GSession) hkx
  refine dops_callV rfl rfl (by cbv) (by cbv) hc5 (.inr rfl) ?_
  refine dz hA 1 ?_
  refine go_cond rfl (fun c6 => ?_) (fun c6 => ?_)
  ·
   exact no_t c6 (show (A.bnot true) = false from by subst hA; rfl)
  refine gk (gy hA 3 ?_)
  refine ⟨(S35_1 a0 (A.num .add .i64 n5 1)), List.length xs - (i + 1), ?_, by cbv, i + 1, (A.num .add .i64 n5 1), rfl, ?_, rfl⟩
  ·
   omega
  exact ⟨by rw [add_i64 hA (by omega) (by omega)]; omega, by omega⟩
 have ec2 : (A.rlen a0) ≤ n5 := lss_f hA c2
 refine go_exit ⟨fun _ => ?_, fun h => absurd rfl h⟩
 refine gx hA 1 ?_
 refine go_ret ⟨_, by cbv, ?_⟩
 show _ = (PV.bool true)
 rfl
theorem r_laws_eqServer (A : Alg) (hA : A = std) (x : GServer) (hk : ∀ k ∈ zsServer x, (k : Int) ≤ 4611686018427387904) : Real Tryz.prog 11 [.agg (eServer x), .agg (eServer x)] (.bool true) := by
 obtain ⟨⟨⟨⟨f0, g5⟩, b9, m8, a7, a8, b6, a3⟩, p9⟩, j8⟩ := x
 obtain ⟨a2, b2⟩ := nm (f0.map eString)
 have t1 := rlen_map hA b2
 obtain ⟨a4, b7⟩ := nm (g5.map eWrite)
 have u1 := rlen_map hA b7
 obtain ⟨d1, e2⟩ := nm (m8.map eSeg)
 have v3 := rlen_map hA e2
 obtain ⟨e3, i4⟩ := nm (p9.map eInt)
 have w2 := rlen_map hA i4
 obtain ⟨a6, b5⟩ := nm (j8.map eSession)
 have t2 := rlen_map hA b5
 refine real_args (args' := [.agg [.sl 1 a2, .sl 2 a4, .ii b9, .sl 4 d1, .ii a7, .ii a8, .ii b6, .ii a3, .sl 1 e3, .sl 17 a6], .agg [.sl 1 a2, .sl 2 a4, .ii b9, .sl 4 d1, .ii a7, .ii a8, .ii b6, .ii a3, .sl 1 e3, .sl 17 a6]]) (by subst b2 b7 e2 i4 b5; rfl) ?_
 refine real tyOk Tryz.func11 (by kernel_rfl) (afun_of rfl ?_)
 refine gx hA 3 ?_
 refine gs (gs (gr (rn hA 4 ?_)))
 have hc2 : Real Tryz.prog 34 [.agg [.sl 1 a2, .sl 2 a4, .ii b9, .sl 4 d1, .ii a7, .ii a8, .ii b6, .ii a3, .sl 1 e3], .agg [.sl 1 a2, .sl 2 a4, .ii b9, .sl 4 d1, .ii a7, .ii a8, .ii b6, .ii a3, .sl 1 e3]] (.bool true) := by subst b2 b7 e2 i4; exact r_laws_eqStore A hA (⟨⟨⟨f0, g5⟩, b9, m8, a7, a8, b6, a3⟩, p9⟩ : GStore) (fun k h => hk k (by simp only [zsServer, List.mem_append]; simp only [h, true_or, or_true]))
 refine ops_callV rfl rfl (by cbv) (by cbv) hc2 (.inr rfl) (by cbv) ?_
 refine rz hA 1 ?_
 refine go_cond rfl (fun c3 => ?_) (fun c3 => ?_)
 ·
  exact no_t c3 (show (A.bnot true) = false from by subst hA; rfl)
 refine gk (gs (gs (gr (rn hA 4 ?_))))
 have hc5 : Real Tryz.prog 35 [.sl 17 a6, .sl 17 a6] (.bool true) := by subst b5; exact r_laws_eqSessionS A hA j8 (fun k h => hk k (by simp only [zsServer, List.mem_append]; simp only [h, true_or, or_true]))
 refine ops_callV rfl rfl (by cbv) (by cbv) hc5 (.inr rfl) (by cbv) ?_
 refine rz hA 1 ?_
 refine go_cond rfl (fun c6 => ?_) (fun c6 => ?_)
 ·
  exact no_t c6 (show (A.bnot true) = false from by subst hA; rfl)
 refine gk (gx hA 1 ?_)
 refine go_ret ⟨_, by cbv, ?_⟩
 show _ = (PV.bool true)
 rfl
theorem r_laws_eqBox (A : Alg) (hA : A = std) (x : GBox) (hk : ∀ k ∈ zsBox x, (k : Int) ≤ 4611686018427387904) : Real Tryz.prog 124 [.agg (eBox x), .agg (eBox x)] (.bool true) := by
 obtain ⟨b3, a5, i7, k5, o1⟩ := x
 obtain ⟨d2, d5⟩ := nm (o1.map eMail)
 have v2 := rlen_map hA d5
 refine real_args (args' := [.agg [.ii b3, .str a5, .str i7, .ii k5, .sl 3 d2], .agg [.ii b3, .str a5, .str i7, .ii k5, .sl 3 d2]]) (by subst d5; rfl) ?_
 refine real tyOk Tryz.func124 (by kernel_rfl) (afun_of rfl ?_)
 refine gx hA 3 ?_
 refine gs (gx hA 5 ?_)
 refine go_cond rfl (fun c1 => ?_) (fun c1 => ?_)
 ·
  exact no_t c1 (show (A.cmp .neq b3 b3) = false from by subst hA; simp [std])
 refine gk (gs (gx hA 5 ?_))
 refine go_cond rfl (fun c2 => ?_) (fun c2 => ?_)
 ·
  exact no_t c2 (show (A.scmp .neq a5 a5) = false from by subst hA; simp [std])
 refine gk (gs (gx hA 5 ?_))
 refine go_cond rfl (fun c3 => ?_) (fun c3 => ?_)
 ·
  exact no_t c3 (show (A.scmp .neq i7 i7) = false from by subst hA; simp [std])
 refine gk (gs (gx hA 5 ?_))
 refine go_cond rfl (fun c4 => ?_) (fun c4 => ?_)
 ·
  exact no_t c4 (show (A.cmp .neq k5 k5) = false from by subst hA; simp [std])
 refine gk (gs (gs (gr (rn hA 4 ?_))))
 have hc6 : Real Tryz.prog 155 [.sl 3 d2, .sl 3 d2] (.bool true) := by subst d5; exact r_laws_eqMailS A hA o1 (fun k h => hk k (by simp only [zsBox, List.mem_append]; simp only [h, true_or, or_true]))
 refine ops_callV rfl rfl (by cbv) (by cbv) hc6 (.inr rfl) (by cbv) ?_
 refine rz hA 1 ?_
 refine go_cond rfl (fun c7 => ?_) (fun c7 => ?_)
 ·
  exact no_t c7 (show (A.bnot true) = false from by subst hA; rfl)
 refine gk (gx hA 1 ?_)
 refine go_ret ⟨_, by cbv, ?_⟩
 show _ = (PV.bool true)
 rfl
def S87_1 (p0 : RR) (p1 : Int) : St := { sl := [.sl 5 p0, .sl 5 p0, .bad, .bad, .bad, .ii p1, .bad, .bad, .bad, .bad, .bad, .bad, .bad, .bad, .bad, .bad, .bad, .bad, .bad, .bad, .bad, .bad, .bad, .bad, .bad, .bad, .bad], bl := [] }
theorem r_laws_eqBoxS (A : Alg) (hA : A = std) (xs : List GBox) (hk : ∀ k ∈ zsBoxS xs, (k : Int) ≤ 4611686018427387904) : Real Tryz.prog 87 [.sl 5 (List.map eBox xs), .sl 5 (List.map eBox xs)] (.bool true) := by
 obtain ⟨a0, a1⟩ := nm (xs.map eBox)
 have n3 := rlen_map hA a1
 refine real_args (args' := [.sl 5 a0, .sl 5 a0]) (by subst a1; rfl) ?_
 have hlen : (List.length xs : Int) ≤ 4611686018427387904 := hk _ (by simp [zsBoxS])
 refine real tyOk Tryz.func87 (by kernel_rfl) (afun_of rfl ?_)
 refine gx hA 1 ?_
 refine gs (gx hA 5 ?_)
 refine go_cond rfl (fun c1 => ?_) (fun c1 => ?_)
 ·
  exact no_t c1 (show (A.cmp .neq (A.rlen a0) (A.rlen a0)) = false from by subst hA; simp [std])
 refine gk (gs (gx hA 1 ?_))
 refine go_block ?_
 refine go_loopE (fun σ m => ∃ (i : Nat) (n5 : Int), σ = (S87_1 a0 n5) ∧ (n5 = (i : Int) ∧ i ≤ List.length xs) ∧ m = List.length xs - i) _ [] [0, 1, 5] [] (S87_1 a0 0) rfl (by cbv) ⟨0, 0, rfl, ?_, rfl⟩ (fun σ m hI => ?_)
 ·
  exact ⟨rfl, Nat.zero_le _⟩
 obtain ⟨i, n5, rfl, ⟨hn5, hi⟩, rfl⟩ := hI
 refine gs (gx hA 4 ?_)
 refine go_cond rfl (fun c2 => ?_) (fun c2 => ?_)
 ·
  have ec2 : n5 < (A.rlen a0) := lss_t hA c2
  refine gk (gs ?_)
  refine go_block ?_
  refine gs ?_
  refine go_draw [0, 1, 2, 3, 4, 5, 6, 7, 8, 9] (by cbv) ?_
  refine dn_ hA 2 ?_
  have b1 : (0 : Int) ≤ n5 := by
   omega
  have e8 : (Int.toNat n5) < List.length xs := by
   omega
  obtain ⟨x3, hx3⟩ : ∃ x, (xs)[(Int.toNat n5)]? = some x := ⟨_, List.getElem?_eq_getElem e8⟩
  have j7 := List.mem_of_getElem? hx3
  obtain ⟨p6, r3, r1, r2, u2⟩ := x3
  obtain ⟨p5, n9⟩ := nm (u2.map eMail)
  have x8 := rlen_map hA n9
  have b0 : a0[(Int.toNat n5)]? = some [.ii p6, .str r3, .str r1, .ii r2, .sl 3 p5] := by
   subst n9; exact map_at eBox a1 hx3
  have hkx := fun (k : Nat) h => hk k (List.mem_cons_of_mem _ (List.mem_flatMap.2 ⟨_, j7, h⟩))
  refine dops_step rfl rfl rfl (idx_sl rfl rfl rfl rfl rfl b1 rfl b0) ?_
  refine dn_ hA 3 ?_
  refine dops_step rfl rfl rfl (idx_sl rfl rfl rfl rfl rfl b1 rfl b0) ?_
  refine dn_ hA 1 ?_
  have hc5 : Real Tryz.prog 124 [.agg [.ii p6, .str r3, .str r1, .ii r2, .sl 3 p5], .agg [.ii p6, .str r3, .str r1, .ii r2, .sl 3 p5]] (.bool true) := by subst n9; exact r_laws_eqBox A hA (⟨p6, r3, r1, r2, u2⟩ : GBox) hkx
  refine dops_callV rfl rfl (by cbv) (by cbv) hc5 (.inr rfl) ?_
  refine dz hA 1 ?_
  refine go_cond rfl (fun c6 => ?_) (fun c6 => ?_)
  ·
   exact no_t c6 (show (A.bnot true) = false from by subst hA; rfl)
  refine gk (gy hA 3 ?_)
  refine ⟨(S87_1 a0 (A.num .add .i64 n5 1)), List.length xs - (i + 1), ?_, by cbv, i + 1, (A.num .add .i64 n5 1), rfl, ?_, rfl⟩
  ·
   omega
  exact ⟨by rw [add_i64 hA (by omega) (by omega)]; omega, by omega⟩
 have ec2 : (A.rlen a0) ≤ n5 := lss_f hA c2
 refine go_exit ⟨fun _ => ?_, fun h => absurd rfl h⟩
 refine gx hA 1 ?_
 refine go_ret ⟨_, by cbv, ?_⟩
 show _ = (PV.bool true)
 rfl
theorem r_laws_eqState (A : Alg) (hA : A = std) (x : GState) (hk : ∀ k ∈ zsState x, (k : Int) ≤ 4611686018427387904) : Real Tryz.prog 48 [.agg (eState x), .agg (eState x)] (.bool true) := by
 obtain ⟨u6⟩ := x
 obtain ⟨n7, o9⟩ := nm (u6.map eBox)
 have y2 := rlen_map hA o9
 refine real_args (args' := [.agg [.sl 5 n7], .agg [.sl 5 n7]]) (by subst o9; rfl) ?_
 refine real tyOk Tryz.func48 (by kernel_rfl) (afun_of rfl ?_)
 refine gx hA 3 ?_
 refine gs (gs (gr (rn hA 4 ?_)))
 have hc2 : Real Tryz.prog 87 [.sl 5 n7, .sl 5 n7] (.bool true) := by subst o9; exact r_laws_eqBoxS A hA u6 (fun k h => hk k (by simp only [zsState, List.mem_append]; simp only [h, true_or, or_true]))
 refine ops_callV rfl rfl (by cbv) (by cbv) hc2 (.inr rfl) (by cbv) ?_
 refine rz hA 1 ?_
 refine go_cond rfl (fun c3 => ?_) (fun c3 => ?_)
 ·
  exact no_t c3 (show (A.bnot true) = false from by subst hA; rfl)
 refine gk (gx hA 1 ?_)
 refine go_ret ⟨_, by cbv, ?_⟩
 show _ = (PV.bool true)
 rfl
theorem r_laws_eqPlain (A : Alg) (hA : A = std) (x : GPlain) (hk : ∀ k ∈ zsPlain x, (k : Int) ≤ 4611686018427387904) : Real Tryz.prog 20 [.agg (ePlain x), .agg (ePlain x)] (.bool true) := by
 obtain ⟨⟨p8⟩, a9, j8⟩ := x
 obtain ⟨e5, i2⟩ := nm (p8.map eBox)
 have w1 := rlen_map hA i2
 obtain ⟨a6, b5⟩ := nm (j8.map eSession)
 have t2 := rlen_map hA b5
 refine real_args (args' := [.agg [.sl 5 e5, .ii a9, .sl 17 a6], .agg [.sl 5 e5, .ii a9, .sl 17 a6]]) (by subst i2 b5; rfl) ?_
 refine real tyOk Tryz.func20 (by kernel_rfl) (afun_of rfl ?_)
 refine gx hA 3 ?_
 refine gs (gs (gr (rn hA 4 ?_)))
 have hc2 : Real Tryz.prog 48 [.agg [.sl 5 e5], .agg [.sl 5 e5]] (.bool true) := by subst i2; exact r_laws_eqState A hA (⟨p8⟩ : GState) (fun k h => hk k (by simp only [zsPlain, List.mem_append]; simp only [h, true_or, or_true]))
 refine ops_callV rfl rfl (by cbv) (by cbv) hc2 (.inr rfl) (by cbv) ?_
 refine rz hA 1 ?_
 refine go_cond rfl (fun c3 => ?_) (fun c3 => ?_)
 ·
  exact no_t c3 (show (A.bnot true) = false from by subst hA; rfl)
 refine gk (gs (gx hA 5 ?_))
 refine go_cond rfl (fun c4 => ?_) (fun c4 => ?_)
 ·
  exact no_t c4 (show (A.cmp .neq a9 a9) = false from by subst hA; simp [std])
 refine gk (gs (gs (gr (rn hA 4 ?_))))
 have hc6 : Real Tryz.prog 35 [.sl 17 a6, .sl 17 a6] (.bool true) := by subst b5; exact r_laws_eqSessionS A hA j8 (fun k h => hk k (by simp only [zsPlain, List.mem_append]; simp only [h, true_or, or_true]))
 refine ops_callV rfl rfl (by cbv) (by cbv) hc6 (.inr rfl) (by cbv) ?_
 refine rz hA 1 ?_
 refine go_cond rfl (fun c7 => ?_) (fun c7 => ?_)
 ·
  exact no_t c7 (show (A.bnot true) = false from by subst hA; rfl)
 refine gk (gx hA 1 ?_)
 refine go_ret ⟨_, by cbv, ?_⟩
 show _ = (PV.bool true)
 rfl
end Go.Av

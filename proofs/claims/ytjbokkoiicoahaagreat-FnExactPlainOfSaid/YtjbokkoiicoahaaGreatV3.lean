/- Walks: eq of servers. -/
import Derived.Test.YtjbokkoiicoahaaGreatTy
namespace Go.Av
open Go Go.Proofs
set_option maxRecDepth 100000
set_option maxHeartbeats 4000000
set_option linter.unusedVariables false
set_option linter.unusedSimpArgs false
def S152_1 (p0 : RR) (p1 : Int) : St := { sl := [.sl 1 p0, .sl 1 p0, .bad, .bad, .bad, .ii p1, .bad, .bad, .bad, .bad, .bad, .bad, .bad, .bad, .bad, .bad, .bad, .bad, .bad, .bad, .bad, .bad, .bad, .bad, .bad, .bad], bl := [] }
theorem r_laws_eqStringS (A : Alg) (hA : A = std) (xs : List ByteArray) (hk : ∀ k ∈ zsStringS xs, (k : Int) ≤ 4611686018427387904) : Real Tryz.prog 152 [.sl 1 (List.map eString xs), .sl 1 (List.map eString xs)] (.bool true) := by
 obtain ⟨a0, a1⟩ := nm (xs.map eString)
 have n3 := rlen_map hA a1
 refine real_args (args' := [.sl 1 a0, .sl 1 a0]) (by subst a1; rfl) ?_
 have hlen : (List.length xs : Int) ≤ 4611686018427387904 := hk _ (by simp [zsStringS])
 refine real tyOk Tryz.func152 (by kernel_rfl) (afun_of rfl ?_)
 refine gx hA 1 ?_
 refine gs (gx hA 5 ?_)
 refine go_cond rfl (fun c1 => ?_) (fun c1 => ?_)
 ·
  exact no_t c1 (show (A.cmp .neq (A.rlen a0) (A.rlen a0)) = false from by subst hA; simp [std])
 refine gk (gs (gx hA 1 ?_))
 refine go_block ?_
 refine go_loopE (fun σ m => ∃ (i : Nat) (n5 : Int), σ = (S152_1 a0 n5) ∧ (n5 = (i : Int) ∧ i ≤ List.length xs) ∧ m = List.length xs - i) _ [] [0, 1, 5] [] (S152_1 a0 0) rfl (by cbv) ⟨0, 0, rfl, ?_, rfl⟩ (fun σ m hI => ?_)
 ·
  exact ⟨rfl, Nat.zero_le _⟩
 obtain ⟨i, n5, rfl, ⟨hn5, hi⟩, rfl⟩ := hI
 refine gs (gx hA 4 ?_)
 refine go_cond rfl (fun c2 => ?_) (fun c2 => ?_)
 ·
  have ec2 : n5 < (A.rlen a0) := lss_t hA c2
  refine gk (gs ?_)
  refine go_block ?_
  refine gs ?_
  refine go_draw [0, 1, 2, 3, 4, 5, 6, 7, 8] (by cbv) ?_
  refine dn_ hA 2 ?_
  have b2 : (0 : Int) ≤ n5 := by
   omega
  have e9 : (Int.toNat n5) < List.length xs := by
   omega
  obtain ⟨x3, hx3⟩ : ∃ x, (xs)[(Int.toNat n5)]? = some x := ⟨_, List.getElem?_eq_getElem e9⟩
  have j9 := List.mem_of_getElem? hx3
  have b1 : a0[(Int.toNat n5)]? = some [.str x3] := by
   exact map_at eString a1 hx3
  refine dops_step rfl rfl rfl (idx_sl rfl rfl rfl rfl rfl b2 rfl b1) ?_
  refine dn_ hA 3 ?_
  refine dops_step rfl rfl rfl (idx_sl rfl rfl rfl rfl rfl b2 rfl b1) ?_
  refine dz hA 2 ?_
  refine go_cond rfl (fun c4 => ?_) (fun c4 => ?_)
  ·
   exact no_t c4 (show (A.scmp .neq x3 x3) = false from by subst hA; simp [std])
  refine gk (gy hA 3 ?_)
  refine ⟨(S152_1 a0 (A.num .add .i64 n5 1)), List.length xs - (i + 1), ?_, by cbv, i + 1, (A.num .add .i64 n5 1), rfl, ?_, rfl⟩
  ·
   omega
  exact ⟨by rw [add_i64 hA (by omega) (by omega)]; omega, by omega⟩
 have ec2 : (A.rlen a0) ≤ n5 := lss_f hA c2
 refine go_exit ⟨fun _ => ?_, fun h => absurd rfl h⟩
 refine gx hA 1 ?_
 refine go_ret ⟨_, by cbv, ?_⟩
 show _ = (PV.bool true)
 rfl
theorem r_laws_eqWrite (A : Alg) (hA : A = std) (x : GWrite) (hk : ∀ k ∈ zsWrite x, (k : Int) ≤ 4611686018427387904) : Real Tryz.prog 184 [.agg (eWrite x), .agg (eWrite x)] (.bool true) := by
 obtain ⟨v0, d1⟩ := x
 refine real_args (args' := [.agg [.ii v0, .str d1], .agg [.ii v0, .str d1]]) (by rfl) ?_
 refine real tyOk Tryz.func184 (by kernel_rfl) (afun_of rfl ?_)
 refine gx hA 3 ?_
 refine gs (gx hA 5 ?_)
 refine go_cond rfl (fun c1 => ?_) (fun c1 => ?_)
 ·
  exact no_t c1 (show (A.cmp .neq v0 v0) = false from by subst hA; simp [std])
 refine gk (gs (gx hA 5 ?_))
 refine go_cond rfl (fun c2 => ?_) (fun c2 => ?_)
 ·
  exact no_t c2 (show (A.scmp .neq d1 d1) = false from by subst hA; simp [std])
 refine gk (gx hA 1 ?_)
 refine go_ret ⟨_, by cbv, ?_⟩
 show _ = (PV.bool true)
 rfl
def S153_1 (p0 : RR) (p1 : Int) : St := { sl := [.sl 2 p0, .sl 2 p0, .bad, .bad, .bad, .ii p1, .bad, .bad, .bad, .bad, .bad, .bad, .bad, .bad, .bad, .bad, .bad, .bad, .bad, .bad, .bad, .bad, .bad, .bad, .bad, .bad, .bad], bl := [] }
theorem r_laws_eqWriteS (A : Alg) (hA : A = std) (xs : List GWrite) (hk : ∀ k ∈ zsWriteS xs, (k : Int) ≤ 4611686018427387904) : Real Tryz.prog 153 [.sl 2 (List.map eWrite xs), .sl 2 (List.map eWrite xs)] (.bool true) := by
 obtain ⟨a0, a1⟩ := nm (xs.map eWrite)
 have n3 := rlen_map hA a1
 refine real_args (args' := [.sl 2 a0, .sl 2 a0]) (by subst a1; rfl) ?_
 have hlen : (List.length xs : Int) ≤ 4611686018427387904 := hk _ (by simp [zsWriteS])
 refine real tyOk Tryz.func153 (by kernel_rfl) (afun_of rfl ?_)
 refine gx hA 1 ?_
 refine gs (gx hA 5 ?_)
 refine go_cond rfl (fun c1 => ?_) (fun c1 => ?_)
 ·
  exact no_t c1 (show (A.cmp .neq (A.rlen a0) (A.rlen a0)) = false from by subst hA; simp [std])
 refine gk (gs (gx hA 1 ?_))
 refine go_block ?_
 refine go_loopE (fun σ m => ∃ (i : Nat) (n5 : Int), σ = (S153_1 a0 n5) ∧ (n5 = (i : Int) ∧ i ≤ List.length xs) ∧ m = List.length xs - i) _ [] [0, 1, 5] [] (S153_1 a0 0) rfl (by cbv) ⟨0, 0, rfl, ?_, rfl⟩ (fun σ m hI => ?_)
 ·
  exact ⟨rfl, Nat.zero_le _⟩
 obtain ⟨i, n5, rfl, ⟨hn5, hi⟩, rfl⟩ := hI
 refine gs (gx hA 4 ?_)
 refine go_cond rfl (fun c2 => ?_) (fun c2 => ?_)
 ·
  have ec2 : n5 < (A.rlen a0) := lss_t hA c2
  refine gk (gs ?_)
  refine go_block ?_
  refine gs ?_
  refine go_draw [0, 1, 2, 3, 4, 5, 6, 7, 8, 9] (by cbv) ?_
  refine dn_ hA 2 ?_
  have b2 : (0 : Int) ≤ n5 := by
   omega
  have e9 : (Int.toNat n5) < List.length xs := by
   omega
  obtain ⟨x3, hx3⟩ : ∃ x, (xs)[(Int.toNat n5)]? = some x := ⟨_, List.getElem?_eq_getElem e9⟩
  have j9 := List.mem_of_getElem? hx3
  obtain ⟨u0, f4⟩ := x3
  have b1 : a0[(Int.toNat n5)]? = some [.ii u0, .str f4] := by
   exact map_at eWrite a1 hx3
  have hkx := fun (k : Nat) h => hk k (List.mem_cons_of_mem _ (List.mem_flatMap.2 ⟨_, j9, h⟩))
  refine dops_step rfl rfl rfl (idx_sl rfl rfl rfl rfl rfl b2 rfl b1) ?_
  refine dn_ hA 3 ?_
  refine dops_step rfl rfl rfl (idx_sl rfl rfl rfl rfl rfl b2 rfl b1) ?_
  refine dn_ hA 1 ?_
  have hc5 : Real Tryz.prog 184 [.agg [.ii u0, .str f4], .agg [.ii u0, .str f4]] (.bool true) := by exact r_laws_eqWrite A hA (⟨u0, f4⟩ : GWrite) hkx
  refine dops_callV rfl rfl (by cbv) (by cbv) hc5 (.inr rfl) ?_
  refine dz hA 1 ?_
  refine go_cond rfl (fun c6 => ?_) (fun c6 => ?_)
  ·
   exact no_t c6 (show (A.bnot true) = false from by subst hA; rfl)
  refine gk (gy hA 3 ?_)
  refine ⟨(S153_1 a0 (A.num .add .i64 n5 1)), List.length xs - (i + 1), ?_, by cbv, i + 1, (A.num .add .i64 n5 1), rfl, ?_, rfl⟩
  ·
   omega
  exact ⟨by rw [add_i64 hA (by omega) (by omega)]; omega, by omega⟩
 have ec2 : (A.rlen a0) ≤ n5 := lss_f hA c2
 refine go_exit ⟨fun _ => ?_, fun h => absurd rfl h⟩
 refine gx hA 1 ?_
 refine go_ret ⟨_, by cbv, ?_⟩
 show _ = (PV.bool true)
 rfl
theorem r_laws_eqDisk (A : Alg) (hA : A = std) (x : GDisk) (hk : ∀ k ∈ zsDisk x, (k : Int) ≤ 4611686018427387904) : Real Tryz.prog 112 [.agg (eDisk x), .agg (eDisk x)] (.bool true) := by
 obtain ⟨t0, u6⟩ := x
 obtain ⟨l3, m9⟩ := nm (t0.map eString)
 have x5 := rlen_map hA m9
 obtain ⟨n1, o7⟩ := nm (u6.map eWrite)
 have y2 := rlen_map hA o7
 refine real_args (args' := [.agg [.sl 1 l3, .sl 2 n1], .agg [.sl 1 l3, .sl 2 n1]]) (by subst m9 o7; rfl) ?_
 refine real tyOk Tryz.func112 (by kernel_rfl) (afun_of rfl ?_)
 refine gx hA 3 ?_
 refine gs (gs (gr (rn hA 4 ?_)))
 have hc2 : Real Tryz.prog 152 [.sl 1 l3, .sl 1 l3] (.bool true) := by subst m9; exact r_laws_eqStringS A hA t0 (fun k h => hk k (by simp only [zsDisk, List.mem_append]; simp only [h, true_or, or_true]))
 refine ops_callV rfl rfl (by cbv) (by cbv) hc2 (.inr rfl) (by cbv) ?_
 refine rz hA 1 ?_
 refine go_cond rfl (fun c3 => ?_) (fun c3 => ?_)
 ·
  exact no_t c3 (show (A.bnot true) = false from by subst hA; rfl)
 refine gk (gs (gs (gr (rn hA 4 ?_))))
 have hc5 : Real Tryz.prog 153 [.sl 2 n1, .sl 2 n1] (.bool true) := by subst o7; exact r_laws_eqWriteS A hA u6 (fun k h => hk k (by simp only [zsDisk, List.mem_append]; simp only [h, true_or, or_true]))
 refine ops_callV rfl rfl (by cbv) (by cbv) hc5 (.inr rfl) (by cbv) ?_
 refine rz hA 1 ?_
 refine go_cond rfl (fun c6 => ?_) (fun c6 => ?_)
 ·
  exact no_t c6 (show (A.bnot true) = false from by subst hA; rfl)
 refine gk (gx hA 1 ?_)
 refine go_ret ⟨_, by cbv, ?_⟩
 show _ = (PV.bool true)
 rfl
theorem r_laws_eqRec (A : Alg) (hA : A = std) (x : GRec) (hk : ∀ k ∈ zsRec x, (k : Int) ≤ 4611686018427387904) : Real Tryz.prog 209 [.agg (eRec x), .agg (eRec x)] (.bool true) := by
 obtain ⟨k0, b3, m6, j6, f7, a4, j4, d1⟩ := x
 refine real_args (args' := [.agg [.ii k0, .ii b3, .ii m6, .ii j6, .ii f7, .str a4, .str j4, .str d1], .agg [.ii k0, .ii b3, .ii m6, .ii j6, .ii f7, .str a4, .str j4, .str d1]]) (by rfl) ?_
 refine real tyOk Tryz.func209 (by kernel_rfl) (afun_of rfl ?_)
 refine gx hA 3 ?_
 refine gs (gx hA 5 ?_)
 refine go_cond rfl (fun c1 => ?_) (fun c1 => ?_)
 ·
  exact no_t c1 (show (A.cmp .neq k0 k0) = false from by subst hA; simp [std])
 refine gk (gs (gx hA 5 ?_))
 refine go_cond rfl (fun c2 => ?_) (fun c2 => ?_)
 ·
  exact no_t c2 (show (A.cmp .neq b3 b3) = false from by subst hA; simp [std])
 refine gk (gs (gx hA 5 ?_))
 refine go_cond rfl (fun c3 => ?_) (fun c3 => ?_)
 ·
  exact no_t c3 (show (A.cmp .neq m6 m6) = false from by subst hA; simp [std])
 refine gk (gs (gx hA 5 ?_))
 refine go_cond rfl (fun c4 => ?_) (fun c4 => ?_)
 ·
  exact no_t c4 (show (A.cmp .neq j6 j6) = false from by subst hA; simp [std])
 refine gk (gs (gx hA 5 ?_))
 refine go_cond rfl (fun c5 => ?_) (fun c5 => ?_)
 ·
  exact no_t c5 (show (A.cmp .neq f7 f7) = false from by subst hA; simp [std])
 refine gk (gs (gx hA 5 ?_))
 refine go_cond rfl (fun c6 => ?_) (fun c6 => ?_)
 ·
  exact no_t c6 (show (A.scmp .neq a4 a4) = false from by subst hA; simp [std])
 refine gk (gs (gx hA 5 ?_))
 refine go_cond rfl (fun c7 => ?_) (fun c7 => ?_)
 ·
  exact no_t c7 (show (A.scmp .neq j4 j4) = false from by subst hA; simp [std])
 refine gk (gs (gx hA 5 ?_))
 refine go_cond rfl (fun c8 => ?_) (fun c8 => ?_)
 ·
  exact no_t c8 (show (A.scmp .neq d1 d1) = false from by subst hA; simp [std])
 refine gk (gx hA 1 ?_)
 refine go_ret ⟨_, by cbv, ?_⟩
 show _ = (PV.bool true)
 rfl
theorem r_laws_eqItem (A : Alg) (hA : A = std) (x : GItem) (hk : ∀ k ∈ zsItem x, (k : Int) ≤ 4611686018427387904) : Real Tryz.prog 195 [.agg (eItem x), .agg (eItem x)] (.bool true) := by
 obtain ⟨t7, ⟨i9, g4, m1, k8, g1, j2, k5, k2⟩⟩ := x
 refine real_args (args' := [.agg [.ii t7, .ii i9, .ii g4, .ii m1, .ii k8, .ii g1, .str j2, .str k5, .str k2], .agg [.ii t7, .ii i9, .ii g4, .ii m1, .ii k8, .ii g1, .str j2, .str k5, .str k2]]) (by rfl) ?_
 refine real tyOk Tryz.func195 (by kernel_rfl) (afun_of rfl ?_)
 refine gx hA 3 ?_
 refine gs (gx hA 5 ?_)
 refine go_cond rfl (fun c1 => ?_) (fun c1 => ?_)
 ·
  exact no_t c1 (show (A.cmp .neq t7 t7) = false from by subst hA; simp [std])
 refine gk (gs (gs (gr (rn hA 4 ?_))))
 have hc3 : Real Tryz.prog 209 [.agg [.ii i9, .ii g4, .ii m1, .ii k8, .ii g1, .str j2, .str k5, .str k2], .agg [.ii i9, .ii g4, .ii m1, .ii k8, .ii g1, .str j2, .str k5, .str k2]] (.bool true) := by exact r_laws_eqRec A hA (⟨i9, g4, m1, k8, g1, j2, k5, k2⟩ : GRec) (fun k h => hk k (by simp only [zsItem, List.mem_append]; simp only [h, true_or, or_true]))
 refine ops_callV rfl rfl (by cbv) (by cbv) hc3 (.inr rfl) (by cbv) ?_
 refine rz hA 1 ?_
 refine go_cond rfl (fun c4 => ?_) (fun c4 => ?_)
 ·
  exact no_t c4 (show (A.bnot true) = false from by subst hA; rfl)
 refine gk (gx hA 1 ?_)
 refine go_ret ⟨_, by cbv, ?_⟩
 show _ = (PV.bool true)
 rfl
def S185_1 (p0 : RR) (p1 : Int) : St := { sl := [.sl 9 p0, .sl 9 p0, .bad, .bad, .bad, .ii p1, .bad, .bad, .bad, .bad, .bad, .bad, .bad, .bad, .bad, .bad, .bad, .bad, .bad, .bad, .bad, .bad, .bad, .bad, .bad, .bad, .bad], bl := [] }
theorem r_laws_eqItemS (A : Alg) (hA : A = std) (xs : List GItem) (hk : ∀ k ∈ zsItemS xs, (k : Int) ≤ 4611686018427387904) : Real Tryz.prog 185 [.sl 9 (List.map eItem xs), .sl 9 (List.map eItem xs)] (.bool true) := by
 obtain ⟨a0, a1⟩ := nm (xs.map eItem)
 have n3 := rlen_map hA a1
 refine real_args (args' := [.sl 9 a0, .sl 9 a0]) (by subst a1; rfl) ?_
 have hlen : (List.length xs : Int) ≤ 4611686018427387904 := hk _ (by simp [zsItemS])
 refine real tyOk Tryz.func185 (by kernel_rfl) (afun_of rfl ?_)
 refine gx hA 1 ?_
 refine gs (gx hA 5 ?_)
 refine go_cond rfl (fun c1 => ?_) (fun c1 => ?_)
 ·
  exact no_t c1 (show (A.cmp .neq (A.rlen a0) (A.rlen a0)) = false from by subst hA; simp [std])
 refine gk (gs (gx hA 1 ?_))
 refine go_block ?_
 refine go_loopE (fun σ m => ∃ (i : Nat) (n5 : Int), σ = (S185_1 a0 n5) ∧ (n5 = (i : Int) ∧ i ≤ List.length xs) ∧ m = List.length xs - i) _ [] [0, 1, 5] [] (S185_1 a0 0) rfl (by cbv) ⟨0, 0, rfl, ?_, rfl⟩ (fun σ m hI => ?_)
 ·
  exact ⟨rfl, Nat.zero_le _⟩
 obtain ⟨i, n5, rfl, ⟨hn5, hi⟩, rfl⟩ := hI
 refine gs (gx hA 4 ?_)
 refine go_cond rfl (fun c2 => ?_) (fun c2 => ?_)
 ·
  have ec2 : n5 < (A.rlen a0) := lss_t hA c2
  refine gk (gs ?_)
  refine go_block ?_
  refine gs ?_
  refine go_draw [0, 1, 2, 3, 4, 5, 6, 7, 8, 9] (by cbv) ?_
  refine dn_ hA 2 ?_
  have b2 : (0 : Int) ≤ n5 := by
   omega
  have e9 : (Int.toNat n5) < List.length xs := by
   omega
  obtain ⟨x3, hx3⟩ : ∃ x, (xs)[(Int.toNat n5)]? = some x := ⟨_, List.getElem?_eq_getElem e9⟩
  have j9 := List.mem_of_getElem? hx3
  obtain ⟨s0, ⟨l7, k7, m5, l9, k1, l4, l8, l5⟩⟩ := x3
  have b1 : a0[(Int.toNat n5)]? = some [.ii s0, .ii l7, .ii k7, .ii m5, .ii l9, .ii k1, .str l4, .str l8, .str l5] := by
   exact map_at eItem a1 hx3
  have hkx := fun (k : Nat) h => hk k (List.mem_cons_of_mem _ (List.mem_flatMap.2 ⟨_, j9, h⟩))
  refine dops_step rfl rfl rfl (idx_sl rfl rfl rfl rfl rfl b2 rfl b1) ?_
  refine dn_ hA 3 ?_
  refine dops_step rfl rfl rfl (idx_sl rfl rfl rfl rfl rfl b2 rfl b1) ?_
  refine dn_ hA 1 ?_
  have hc5 : Real Tryz.prog 195 [.agg [.ii s0, .ii l7, .ii k7, .ii m5, .ii l9, .ii k1, .str l4, .str l8, .str l5], .agg [.ii s0, .ii l7, .ii k7, .ii m5, .ii l9, .ii k1, .str l4, .str l8, .str l5]] (.bool true) := by exact r_laws_eqItem A hA (⟨s0, ⟨l7, k7, m5, l9, k1, l4, l8, l5⟩⟩ : GItem) hkx
  refine dops_callV rfl rfl (by cbv) (by cbv) hc5 (.inr rfl) ?_
  refine dz hA 1 ?_
  refine go_cond rfl (fun c6 => ?_) (fun c6 => ?_)
  ·
   exact no_t c6 (show (A.bnot true) = false from by subst hA; rfl)
  refine gk (gy hA 3 ?_)
  refine ⟨(S185_1 a0 (A.num .add .i64 n5 1)), List.length xs - (i + 1), ?_, by cbv, i + 1, (A.num .add .i64 n5 1), rfl, ?_, rfl⟩
  ·
   omega
  exact ⟨by rw [add_i64 hA (by omega) (by omega)]; omega, by omega⟩
 have ec2 : (A.rlen a0) ≤ n5 := lss_f hA c2
 refine go_exit ⟨fun _ => ?_, fun h => absurd rfl h⟩
 refine gx hA 1 ?_
 refine go_ret ⟨_, by cbv, ?_⟩
 show _ = (PV.bool true)
 rfl
theorem r_laws_eqSeg (A : Alg) (hA : A = std) (x : GSeg) (hk : ∀ k ∈ zsSeg x, (k : Int) ≤ 4611686018427387904) : Real Tryz.prog 154 [.agg (eSeg x), .agg (eSeg x)] (.bool true) := by
 obtain ⟨u9, t3, t5, u4⟩ := x
 obtain ⟨n6, o5⟩ := nm (u4.map eItem)
 have y0 := rlen_map hA o5
 refine real_args (args' := [.agg [.ii u9, .ii t3, .ii t5, .sl 9 n6], .agg [.ii u9, .ii t3, .ii t5, .sl 9 n6]]) (by subst o5; rfl) ?_
 refine real tyOk Tryz.func154 (by kernel_rfl) (afun_of rfl ?_)
 refine gx hA 3 ?_
 refine gs (gx hA 5 ?_)
 refine go_cond rfl (fun c1 => ?_) (fun c1 => ?_)
 ·
  exact no_t c1 (show (A.cmp .neq u9 u9) = false from by subst hA; simp [std])
 refine gk (gs (gx hA 5 ?_))
 refine go_cond rfl (fun c2 => ?_) (fun c2 => ?_)
 ·
  exact no_t c2 (show (A.cmp .neq t3 t3) = false from by subst hA; simp [std])
 refine gk (gs (gx hA 5 ?_))
 refine go_cond rfl (fun c3 => ?_) (fun c3 => ?_)
 ·
  exact no_t c3 (show (A.cmp .neq t5 t5) = false from by subst hA; simp [std])
 refine gk (gs (gs (gr (rn hA 4 ?_))))
 have hc5 : Real Tryz.prog 185 [.sl 9 n6, .sl 9 n6] (.bool true) := by subst o5; exact r_laws_eqItemS A hA u4 (fun k h => hk k (by simp only [zsSeg, List.mem_append]; simp only [h, true_or, or_true]))
 refine ops_callV rfl rfl (by cbv) (by cbv) hc5 (.inr rfl) (by cbv) ?_
 refine rz hA 1 ?_
 refine go_cond rfl (fun c6 => ?_) (fun c6 => ?_)
 ·
  exact no_t c6 (show (A.bnot true) = false from by subst hA; rfl)
 refine gk (gx hA 1 ?_)
 refine go_ret ⟨_, by cbv, ?_⟩
 show _ = (PV.bool true)
 rfl
def S113_1 (p0 : RR) (p1 : Int) : St := { sl := [.sl 4 p0, .sl 4 p0, .bad, .bad, .bad, .ii p1, .bad, .bad, .bad, .bad, .bad, .bad, .bad, .bad, .bad, .bad, .bad, .bad, .bad, .bad, .bad, .bad, .bad, .bad, .bad, .bad, .bad], bl := [] }
theorem r_laws_eqSegS (A : Alg) (hA : A = std) (xs : List GSeg) (hk : ∀ k ∈ zsSegS xs, (k : Int) ≤ 4611686018427387904) : Real Tryz.prog 113 [.sl 4 (List.map eSeg xs), .sl 4 (List.map eSeg xs)] (.bool true) := by
 obtain ⟨a0, a1⟩ := nm (xs.map eSeg)
 have n3 := rlen_map hA a1
 refine real_args (args' := [.sl 4 a0, .sl 4 a0]) (by subst a1; rfl) ?_
 have hlen : (List.length xs : Int) ≤ 4611686018427387904 := hk _ (by simp [zsSegS])
 refine real tyOk Tryz.func113 (by kernel_rfl) (afun_of rfl ?_)
 refine gx hA 1 ?_
 refine gs (gx hA 5 ?_)
 refine go_cond rfl (fun c1 => ?_) (fun c1 => ?_)
 ·
  exact no_t c1 (show (A.cmp .neq (A.rlen a0) (A.rlen a0)) = false from by subst hA; simp [std])
 refine gk (gs (gx hA 1 ?_))
 refine go_block ?_
 refine go_loopE (fun σ m => ∃ (i : Nat) (n5 : Int), σ = (S113_1 a0 n5) ∧ (n5 = (i : Int) ∧ i ≤ List.length xs) ∧ m = List.length xs - i) _ [] [0, 1, 5] [] (S113_1 a0 0) rfl (by cbv) ⟨0, 0, rfl, ?_, rfl⟩ (fun σ m hI => ?_)
 ·
  exact ⟨rfl, Nat.zero_le _⟩
 obtain ⟨i, n5, rfl, ⟨hn5, hi⟩, rfl⟩ := hI
 refine gs (gx hA 4 ?_)
 refine go_cond rfl (fun c2 => ?_) (fun c2 => ?_)
 ·
  have ec2 : n5 < (A.rlen a0) := lss_t hA c2
  refine gk (gs ?_)
  refine go_block ?_
  refine gs ?_
  refine go_draw [0, 1, 2, 3, 4, 5, 6, 7, 8, 9] (by cbv) ?_
  refine dn_ hA 2 ?_
  have b2 : (0 : Int) ≤ n5 := by
   omega
  have e9 : (Int.toNat n5) < List.length xs := by
   omega
  obtain ⟨x3, hx3⟩ : ∃ x, (xs)[(Int.toNat n5)]? = some x := ⟨_, List.getElem?_eq_getElem e9⟩
  have j9 := List.mem_of_getElem? hx3
  obtain ⟨t4, s1, s3, u2⟩ := x3
  obtain ⟨p3, n8⟩ := nm (u2.map eItem)
  have x7 := rlen_map hA n8
  have b1 : a0[(Int.toNat n5)]? = some [.ii t4, .ii s1, .ii s3, .sl 9 p3] := by
   subst n8; exact map_at eSeg a1 hx3
  have hkx := fun (k : Nat) h => hk k (List.mem_cons_of_mem _ (List.mem_flatMap.2 ⟨_, j9, h⟩))
  refine dops_step rfl rfl rfl (idx_sl rfl rfl rfl rfl rfl b2 rfl b1) ?_
  refine dn_ hA 3 ?_
  refine dops_step rfl rfl rfl (idx_sl rfl rfl rfl rfl rfl b2 rfl b1) ?_
  refine dn_ hA 1 ?_
  have hc5 : Real Tryz.prog 154 [.agg [.ii t4, .ii s1, .ii s3, .sl 9 p3], .agg [.ii t4, .ii s1, .ii s3, .sl 9 p3]] (.bool true) := by subst n8; exact r_laws_eqSeg A hA (⟨t4, s1, s3, u2⟩ : GSeg) hkx
  refine dops_callV rfl rfl (by cbv) (by cbv) hc5 (.inr rfl) ?_
  refine dz hA 1 ?_
  refine go_cond rfl (fun c6 => ?_) (fun c6 => ?_)
  ·
   exact no_t c6 (show (A.bnot true) = false from by subst hA; rfl)
  refine gk (gy hA 3 ?_)
  refine ⟨(S113_1 a0 (A.num .add .i64 n5 1)), List.length xs - (i + 1), ?_, by cbv, i + 1, (A.num .add .i64 n5 1), rfl, ?_, rfl⟩
  ·
   omega
  exact ⟨by rw [add_i64 hA (by omega) (by omega)]; omega, by omega⟩
 have ec2 : (A.rlen a0) ≤ n5 := lss_f hA c2
 refine go_exit ⟨fun _ => ?_, fun h => absurd rfl h⟩
 refine gx hA 1 ?_
 refine go_ret ⟨_, by cbv, ?_⟩
 show _ = (PV.bool true)
 rfl
theorem r_laws_eqLog (A : Alg) (hA : A = std) (x : GLog) (hk : ∀ k ∈ zsLog x, (k : Int) ≤ 4611686018427387904) : Real Tryz.prog 66 [.agg (eLog x), .agg (eLog x)] (.bool true) := by
 obtain ⟨⟨o0, q5⟩, r9, v8, n4, n7, r0, a9⟩ := x
 obtain ⟨d6, f9⟩ := nm (o0.map eString)
 have v9 := rlen_map hA f9
 obtain ⟨f6, j3⟩ := nm (q5.map eWrite)
 have w7 := rlen_map hA j3
 obtain ⟨p6, q6⟩ := nm (v8.map eSeg)
 have y4 := rlen_map hA q6
 refine real_args (args' := [.agg [.sl 1 d6, .sl 2 f6, .ii r9, .sl 4 p6, .ii n4, .ii n7, .ii r0, .ii a9], .agg [.sl 1 d6, .sl 2 f6, .ii r9, .sl 4 p6, .ii n4, .ii n7, .ii r0, .ii a9]]) (by subst f9 j3 q6; rfl) ?_
 refine real tyOk Tryz.func66 (by kernel_rfl) (afun_of rfl ?_)
 refine gx hA 3 ?_
 refine gs (gs (gr (rn hA 4 ?_)))
 have hc2 : Real Tryz.prog 112 [.agg [.sl 1 d6, .sl 2 f6], .agg [.sl 1 d6, .sl 2 f6]] (.bool true) := by subst f9 j3; exact r_laws_eqDisk A hA (⟨o0, q5⟩ : GDisk) (fun k h => hk k (by simp only [zsLog, List.mem_append]; simp only [h, true_or, or_true]))
 refine ops_callV rfl rfl (by cbv) (by cbv) hc2 (.inr rfl) (by cbv) ?_
 refine rz hA 1 ?_
 refine go_cond rfl (fun c3 => ?_) (fun c3 => ?_)
 ·
  exact no_t c3 (show (A.bnot true) = false from by subst hA; rfl)
 refine gk (gs (gx hA 5 ?_))
 refine go_cond rfl (fun c4 => ?_) (fun c4 => ?_)
 ·
  exact no_t c4 (show (A.cmp .neq r9 r9) = false from by subst hA; simp [std])
 refine gk (gs (gs (gr (rn hA 4 ?_))))
 have hc6 : Real Tryz.prog 113 [.sl 4 p6, .sl 4 p6] (.bool true) := by subst q6; exact r_laws_eqSegS A hA v8 (fun k h => hk k (by simp only [zsLog, List.mem_append]; simp only [h, true_or, or_true]))
 refine ops_callV rfl rfl (by cbv) (by cbv) hc6 (.inr rfl) (by cbv) ?_
 refine rz hA 1 ?_
 refine go_cond rfl (fun c7 => ?_) (fun c7 => ?_)
 ·
  exact no_t c7 (show (A.bnot true) = false from by subst hA; rfl)
 refine gk (gs (gx hA 5 ?_))
 refine go_cond rfl (fun c8 => ?_) (fun c8 => ?_)
 ·
  exact no_t c8 (show (A.cmp .neq n4 n4) = false from by subst hA; simp [std])
 refine gk (gs (gx hA 5 ?_))
 refine go_cond rfl (fun c9 => ?_) (fun c9 => ?_)
 ·
  exact no_t c9 (show (A.cmp .neq n7 n7) = false from by subst hA; simp [std])
 refine gk (gs (gx hA 5 ?_))
 refine go_cond rfl (fun c10 => ?_) (fun c10 => ?_)
 ·
  exact no_t c10 (show (A.cmp .neq r0 r0) = false from by subst hA; simp [std])
 refine gk (gs (gx hA 5 ?_))
 refine go_cond rfl (fun c11 => ?_) (fun c11 => ?_)
 ·
  exact no_t c11 (show (A.cmp .neq a9 a9) = false from by subst hA; simp [std])
 refine gk (gx hA 1 ?_)
 refine go_ret ⟨_, by cbv, ?_⟩
 show _ = (PV.bool true)
 rfl
def S67_1 (p0 : RR) (p1 : Int) : St := { sl := [.sl 1 p0, .sl 1 p0, .bad, .bad, .bad, .ii p1, .bad, .bad, .bad, .bad, .bad, .bad, .bad, .bad, .bad, .bad, .bad, .bad, .bad, .bad, .bad, .bad, .bad, .bad, .bad, .bad], bl := [] }
theorem r_laws_eqIntS (A : Alg) (hA : A = std) (xs : List Int) (hk : ∀ k ∈ zsIntS xs, (k : Int) ≤ 4611686018427387904) : Real Tryz.prog 67 [.sl 1 (List.map eInt xs), .sl 1 (List.map eInt xs)] (.bool true) := by
 obtain ⟨a0, a1⟩ := nm (xs.map eInt)
 have n3 := rlen_map hA a1
 refine real_args (args' := [.sl 1 a0, .sl 1 a0]) (by subst a1; rfl) ?_
 have hlen : (List.length xs : Int) ≤ 4611686018427387904 := hk _ (by simp [zsIntS])
 refine real tyOk Tryz.func67 (by kernel_rfl) (afun_of rfl ?_)
 refine gx hA 1 ?_
 refine gs (gx hA 5 ?_)
 refine go_cond rfl (fun c1 => ?_) (fun c1 => ?_)
 ·
  exact no_t c1 (show (A.cmp .neq (A.rlen a0) (A.rlen a0)) = false from by subst hA; simp [std])
 refine gk (gs (gx hA 1 ?_))
 refine go_block ?_
 refine go_loopE (fun σ m => ∃ (i : Nat) (n5 : Int), σ = (S67_1 a0 n5) ∧ (n5 = (i : Int) ∧ i ≤ List.length xs) ∧ m = List.length xs - i) _ [] [0, 1, 5] [] (S67_1 a0 0) rfl (by cbv) ⟨0, 0, rfl, ?_, rfl⟩ (fun σ m hI => ?_)
 ·
  exact ⟨rfl, Nat.zero_le _⟩
 obtain ⟨i, n5, rfl, ⟨hn5, hi⟩, rfl⟩ := hI
 refine gs (gx hA 4 ?_)
 refine go_cond rfl (fun c2 => ?_) (fun c2 => ?_)
 ·
  have ec2 : n5 < (A.rlen a0) := lss_t hA c2
  refine gk (gs ?_)
  refine go_block ?_
  refine gs ?_
  refine go_draw [0, 1, 2, 3, 4, 5, 6, 7, 8] (by cbv) ?_
  refine dn_ hA 2 ?_
  have b2 : (0 : Int) ≤ n5 := by
   omega
  have e9 : (Int.toNat n5) < List.length xs := by
   omega
  obtain ⟨x3, hx3⟩ : ∃ x, (xs)[(Int.toNat n5)]? = some x := ⟨_, List.getElem?_eq_getElem e9⟩
  have j9 := List.mem_of_getElem? hx3
  have b1 : a0[(Int.toNat n5)]? = some [.ii x3] := by
   exact map_at eInt a1 hx3
  refine dops_step rfl rfl rfl (idx_sl rfl rfl rfl rfl rfl b2 rfl b1) ?_
  refine dn_ hA 3 ?_
  refine dops_step rfl rfl rfl (idx_sl rfl rfl rfl rfl rfl b2 rfl b1) ?_
  refine dz hA 2 ?_
  refine go_cond rfl (fun c4 => ?_) (fun c4 => ?_)
  ·
   exact no_t c4 (show (A.cmp .neq x3 x3) = false from by subst hA; simp [std])
  refine gk (gy hA 3 ?_)
  refine ⟨(S67_1 a0 (A.num .add .i64 n5 1)), List.length xs - (i + 1), ?_, by cbv, i + 1, (A.num .add .i64 n5 1), rfl, ?_, rfl⟩
  ·
   omega
  exact ⟨by rw [add_i64 hA (by omega) (by omega)]; omega, by omega⟩
 have ec2 : (A.rlen a0) ≤ n5 := lss_f hA c2
 refine go_exit ⟨fun _ => ?_, fun h => absurd rfl h⟩
 refine gx hA 1 ?_
 refine go_ret ⟨_, by cbv, ?_⟩
 show _ = (PV.bool true)
 rfl
theorem r_laws_eqStore (A : Alg) (hA : A = std) (x : GStore) (hk : ∀ k ∈ zsStore x, (k : Int) ≤ 4611686018427387904) : Real Tryz.prog 34 [.agg (eStore x), .agg (eStore x)] (.bool true) := by
 obtain ⟨⟨⟨m0, m8⟩, j1, s2, d8, d7, g5, d3⟩, u8⟩ := x
 obtain ⟨b8, d4⟩ := nm (m0.map eString)
 have u5 := rlen_map hA d4
 obtain ⟨c0, e1⟩ := nm (m8.map eWrite)
 have v4 := rlen_map hA e1
 obtain ⟨j7, m2⟩ := nm (s2.map eSeg)
 have x4 := rlen_map hA m2
 obtain ⟨n0, p5⟩ := nm (u8.map eInt)
 have x9 := rlen_map hA p5
 refine real_args (args' := [.agg [.sl 1 b8, .sl 2 c0, .ii j1, .sl 4 j7, .ii d8, .ii d7, .ii g5, .ii d3, .sl 1 n0], .agg [.sl 1 b8, .sl 2 c0, .ii j1, .sl 4 j7, .ii d8, .ii d7, .ii g5, .ii d3, .sl 1 n0]]) (by subst d4 e1 m2 p5; rfl) ?_
 refine real tyOk Tryz.func34 (by kernel_rfl) (afun_of rfl ?_)
 refine gx hA 3 ?_
 refine gs (gs (gr (rn hA 4 ?_)))
 have hc2 : Real Tryz.prog 66 [.agg [.sl 1 b8, .sl 2 c0, .ii j1, .sl 4 j7, .ii d8, .ii d7, .ii g5, .ii d3], .agg [.sl 1 b8, .sl 2 c0, .ii j1, .sl 4 j7, .ii d8, .ii d7, .ii g5, .ii d3]] (.bool true) := by subst d4 e1 m2; exact r_laws_eqLog A hA (⟨⟨m0, m8⟩, j1, s2, d8, d7, g5, d3⟩ : GLog) (fun k h => hk k (by simp only [zsStore, List.mem_append]; simp only [h, true_or, or_true]))
 refine ops_callV rfl rfl (by cbv) (by cbv) hc2 (.inr rfl) (by cbv) ?_
 refine rz hA 1 ?_
 refine go_cond rfl (fun c3 => ?_) (fun c3 => ?_)
 ·
  exact no_t c3 (show (A.bnot true) = false from by subst hA; rfl)
 refine gk (gs (gs (gr (rn hA 4 ?_))))
 have hc5 : Real Tryz.prog 67 [.sl 1 n0, .sl 1 n0] (.bool true) := by subst p5; exact r_laws_eqIntS A hA u8 (fun k h => hk k (by simp only [zsStore, List.mem_append]; simp only [h, true_or, or_true]))
 refine ops_callV rfl rfl (by cbv) (by cbv) hc5 (.inr rfl) (by cbv) ?_
 refine rz hA 1 ?_
 refine go_cond rfl (fun c6 => ?_) (fun c6 => ?_)
 ·
  exact no_t c6 (show (A.bnot true) = false from by subst hA; rfl)
 refine gk (gx hA 1 ?_)
 refine go_ret ⟨_, by cbv, ?_⟩
 show _ = (PV.bool true)
 rfl
theorem r_laws_eqBring (A : Alg) (hA : A = std) (x : GBring) (hk : ∀ k ∈ zsBring x, (k : Int) ≤ 4611686018427387904) : Real Tryz.prog 114 [.agg (eBring x), .agg (eBring x)] (.bool true) := by
 obtain ⟨b4, s5, x6, v5⟩ := x
 obtain ⟨s7, s9⟩ := nm (x6.map eString)
 have y8 := rlen_map hA s9
 obtain ⟨o9, q8⟩ := nm (v5.map eString)
 have y5 := rlen_map hA q8
 refine real_args (args' := [.agg [.ii b4, .str s5, .sl 1 s7, .sl 1 o9], .agg [.ii b4, .str s5, .sl 1 s7, .sl 1 o9]]) (by subst s9 q8; rfl) ?_
 refine real tyOk Tryz.func114 (by kernel_rfl) (afun_of rfl ?_)
 refine gx hA 3 ?_
 refine gs (gx hA 5 ?_)
 refine go_cond rfl (fun c1 => ?_) (fun c1 => ?_)
 ·
  exact no_t c1 (show (A.cmp .neq b4 b4) = false from by subst hA; simp [std])
 refine gk (gs (gx hA 5 ?_))
 refine go_cond rfl (fun c2 => ?_) (fun c2 => ?_)
 ·
  exact no_t c2 (show (A.scmp .neq s5 s5) = false from by subst hA; simp [std])
 refine gk (gs (gs (gr (rn hA 4 ?_))))
 have hc4 : Real Tryz.prog 152 [.sl 1 s7, .sl 1 s7] (.bool true) := by subst s9; exact r_laws_eqStringS A hA x6 (fun k h => hk k (by simp only [zsBring, List.mem_append]; simp only [h, true_or, or_true]))
 refine ops_callV rfl rfl (by cbv) (by cbv) hc4 (.inr rfl) (by cbv) ?_
 refine rz hA 1 ?_
 refine go_cond rfl (fun c5 => ?_) (fun c5 => ?_)
 ·
  exact no_t c5 (show (A.bnot true) = false from by subst hA; rfl)
 refine gk (gs (gs (gr (rn hA 4 ?_))))
 have hc7 : Real Tryz.prog 152 [.sl 1 o9, .sl 1 o9] (.bool true) := by subst q8; exact r_laws_eqStringS A hA v5 (fun k h => hk k (by simp only [zsBring, List.mem_append]; simp only [h, true_or, or_true]))
 refine ops_callV rfl rfl (by cbv) (by cbv) hc7 (.inr rfl) (by cbv) ?_
 refine rz hA 1 ?_
 refine go_cond rfl (fun c8 => ?_) (fun c8 => ?_)
 ·
  exact no_t c8 (show (A.bnot true) = false from by subst hA; rfl)
 refine gk (gx hA 1 ?_)
 refine go_ret ⟨_, by cbv, ?_⟩
 show _ = (PV.bool true)
 rfl
theorem r_laws_eqMail (A : Alg) (hA : A = std) (x : GMail) (hk : ∀ k ∈ zsMail x, (k : Int) ≤ 4611686018427387904) : Real Tryz.prog 186 [.agg (eMail x), .agg (eMail x)] (.bool true) := by
 obtain ⟨m6, f7, d1⟩ := x
 refine real_args (args' := [.agg [.ii m6, .ii f7, .str d1], .agg [.ii m6, .ii f7, .str d1]]) (by rfl) ?_
 refine real tyOk Tryz.func186 (by kernel_rfl) (afun_of rfl ?_)
 refine gx hA 3 ?_
 refine gs (gx hA 5 ?_)
 refine go_cond rfl (fun c1 => ?_) (fun c1 => ?_)
 ·
  exact no_t c1 (show (A.cmp .neq m6 m6) = false from by subst hA; simp [std])
 refine gk (gs (gx hA 5 ?_))
 refine go_cond rfl (fun c2 => ?_) (fun c2 => ?_)
 ·
  exact no_t c2 (show (A.cmp .neq f7 f7) = false from by subst hA; simp [std])
 refine gk (gs (gx hA 5 ?_))
 refine go_cond rfl (fun c3 => ?_) (fun c3 => ?_)
 ·
  exact no_t c3 (show (A.scmp .neq d1 d1) = false from by subst hA; simp [std])
 refine gk (gx hA 1 ?_)
 refine go_ret ⟨_, by cbv, ?_⟩
 show _ = (PV.bool true)
 rfl
def S155_1 (p0 : RR) (p1 : Int) : St := { sl := [.sl 3 p0, .sl 3 p0, .bad, .bad, .bad, .ii p1, .bad, .bad, .bad, .bad, .bad, .bad, .bad, .bad, .bad, .bad, .bad, .bad, .bad, .bad, .bad, .bad, .bad, .bad, .bad, .bad, .bad], bl := [] }
theorem r_laws_eqMailS (A : Alg) (hA : A = std) (xs : List GMail) (hk : ∀ k ∈ zsMailS xs, (k : Int) ≤ 4611686018427387904) : Real Tryz.prog 155 [.sl 3 (List.map eMail xs), .sl 3 (List.map eMail xs)] (.bool true) := by
 obtain ⟨a0, a1⟩ := nm (xs.map eMail)
 have n3 := rlen_map hA a1
 refine real_args (args' := [.sl 3 a0, .sl 3 a0]) (by subst a1; rfl) ?_
 have hlen : (List.length xs : Int) ≤ 4611686018427387904 := hk _ (by simp [zsMailS])
 refine real tyOk Tryz.func155 (by kernel_rfl) (afun_of rfl ?_)
 refine gx hA 1 ?_
 refine gs (gx hA 5 ?_)
 refine go_cond rfl (fun c1 => ?_) (fun c1 => ?_)
 ·
  exact no_t c1 (show (A.cmp .neq (A.rlen a0) (A.rlen a0)) = false from by subst hA; simp [std])
 refine gk (gs (gx hA 1 ?_))
 refine go_block ?_
 refine go_loopE (fun σ m => ∃ (i : Nat) (n5 : Int), σ = (S155_1 a0 n5) ∧ (n5 = (i : Int) ∧ i ≤ List.length xs) ∧ m = List.length xs - i) _ [] [0, 1, 5] [] (S155_1 a0 0) rfl (by cbv) ⟨0, 0, rfl, ?_, rfl⟩ (fun σ m hI => ?_)
 ·
  exact ⟨rfl, Nat.zero_le _⟩
 obtain ⟨i, n5, rfl, ⟨hn5, hi⟩, rfl⟩ := hI
 refine gs (gx hA 4 ?_)
 refine go_cond rfl (fun c2 => ?_) (fun c2 => ?_)
 ·
  have ec2 : n5 < (A.rlen a0) := lss_t hA c2
  refine gk (gs ?_)
  refine go_block ?_
  refine gs ?_
  refine go_draw [0, 1, 2, 3, 4, 5, 6, 7, 8, 9] (by cbv) ?_
  refine dn_ hA 2 ?_
  have b2 : (0 : Int) ≤ n5 := by
   omega
  have e9 : (Int.toNat n5) < List.length xs := by
   omega
  obtain ⟨x3, hx3⟩ : ∃ x, (xs)[(Int.toNat n5)]? = some x := ⟨_, List.getElem?_eq_getElem e9⟩
  have j9 := List.mem_of_getElem? hx3
  obtain ⟨s6, o8, f4⟩ := x3
  have b1 : a0[(Int.toNat n5)]? = some [.ii s6, .ii o8, .str f4] := by
   exact map_at eMail a1 hx3
  have hkx := fun (k : Nat) h => hk k (List.mem_cons_of_mem _ (List.mem_flatMap.2 ⟨_, j9, h⟩))
  refine dops_step rfl rfl rfl (idx_sl rfl rfl rfl rfl rfl b2 rfl b1) ?_
  refine dn_ hA 3 ?_
  refine dops_step rfl rfl rfl (idx_sl rfl rfl rfl rfl rfl b2 rfl b1) ?_
  refine dn_ hA 1 ?_
  have hc5 : Real Tryz.prog 186 [.agg [.ii s6, .ii o8, .str f4], .agg [.ii s6, .ii o8, .str f4]] (.bool true) := by exact r_laws_eqMail A hA (⟨s6, o8, f4⟩ : GMail) hkx
  refine dops_callV rfl rfl (by cbv) (by cbv) hc5 (.inr rfl) ?_
  refine dz hA 1 ?_
  refine go_cond rfl (fun c6 => ?_) (fun c6 => ?_)
  ·
   exact no_t c6 (show (A.bnot true) = false from by subst hA; rfl)
  refine gk (gy hA 3 ?_)
  refine ⟨(S155_1 a0 (A.num .add .i64 n5 1)), List.length xs - (i + 1), ?_, by cbv, i + 1, (A.num .add .i64 n5 1), rfl, ?_, rfl⟩
  ·
   omega
  exact ⟨by rw [add_i64 hA (by omega) (by omega)]; omega, by omega⟩
 have ec2 : (A.rlen a0) ≤ n5 := lss_f hA c2
 refine go_exit ⟨fun _ => ?_, fun h => absurd rfl h⟩
 refine gx hA 1 ?_
 refine go_ret ⟨_, by cbv, ?_⟩
 show _ = (PV.bool true)
 rfl
def S156_1 (p0 : RR) (p1 : Int) : St := { sl := [.sl 1 p0, .sl 1 p0, .bad, .bad, .bad, .ii p1, .bad, .bad, .bad, .bad, .bad, .bad, .bad, .bad, .bad, .bad, .bad, .bad, .bad, .bad, .bad, .bad, .bad, .bad, .bad, .bad], bl := [] }
theorem r_laws_eqBoolS (A : Alg) (hA : A = std) (xs : List Bool) (hk : ∀ k ∈ zsBoolS xs, (k : Int) ≤ 4611686018427387904) : Real Tryz.prog 156 [.sl 1 (List.map eBool xs), .sl 1 (List.map eBool xs)] (.bool true) := by
 obtain ⟨a0, a1⟩ := nm (xs.map eBool)
 have n3 := rlen_map hA a1
 refine real_args (args' := [.sl 1 a0, .sl 1 a0]) (by subst a1; rfl) ?_
 have hlen : (List.length xs : Int) ≤ 4611686018427387904 := hk _ (by simp [zsBoolS])
 refine real tyOk Tryz.func156 (by kernel_rfl) (afun_of rfl ?_)
 refine gx hA 1 ?_
 refine gs (gx hA 5 ?_)
 refine go_cond rfl (fun c1 => ?_) (fun c1 => ?_)
 ·
  exact no_t c1 (show (A.cmp .neq (A.rlen a0) (A.rlen a0)) = false from by subst hA; simp [std])
 refine gk (gs (gx hA 1 ?_))
 refine go_block ?_
 refine go_loopE (fun σ m => ∃ (i : Nat) (n5 : Int), σ = (S156_1 a0 n5) ∧ (n5 = (i : Int) ∧ i ≤ List.length xs) ∧ m = List.length xs - i) _ [] [0, 1, 5] [] (S156_1 a0 0) rfl (by cbv) ⟨0, 0, rfl, ?_, rfl⟩ (fun σ m hI => ?_)
 ·
  exact ⟨rfl, Nat.zero_le _⟩
 obtain ⟨i, n5, rfl, ⟨hn5, hi⟩, rfl⟩ := hI
 refine gs (gx hA 4 ?_)
 refine go_cond rfl (fun c2 => ?_) (fun c2 => ?_)
 ·
  have ec2 : n5 < (A.rlen a0) := lss_t hA c2
  refine gk (gs ?_)
  refine go_block ?_
  refine gs ?_
  refine go_draw [0, 1, 2, 3, 4, 5, 6, 7, 8] (by cbv) ?_
  refine dn_ hA 2 ?_
  have b2 : (0 : Int) ≤ n5 := by
   omega
  have e9 : (Int.toNat n5) < List.length xs := by
   omega
  obtain ⟨x3, hx3⟩ : ∃ x, (xs)[(Int.toNat n5)]? = some x := ⟨_, List.getElem?_eq_getElem e9⟩
  have j9 := List.mem_of_getElem? hx3
  have b1 : a0[(Int.toNat n5)]? = some [.bool x3] := by
   exact map_at eBool a1 hx3
  refine dops_step rfl rfl rfl (idx_sl rfl rfl rfl rfl rfl b2 rfl b1) ?_
  refine dn_ hA 3 ?_
  refine dops_step rfl rfl rfl (idx_sl rfl rfl rfl rfl rfl b2 rfl b1) ?_
  refine dz hA 2 ?_
  refine go_cond rfl (fun c4 => ?_) (fun c4 => ?_)
  ·
   exact no_t c4 (show (A.bnot (A.beq x3 x3)) = false from by subst hA; simp [std])
  refine gk (gy hA 3 ?_)
  refine ⟨(S156_1 a0 (A.num .add .i64 n5 1)), List.length xs - (i + 1), ?_, by cbv, i + 1, (A.num .add .i64 n5 1), rfl, ?_, rfl⟩
  ·
   omega
  exact ⟨by rw [add_i64 hA (by omega) (by omega)]; omega, by omega⟩
 have ec2 : (A.rlen a0) ≤ n5 := lss_f hA c2
 refine go_exit ⟨fun _ => ?_, fun h => absurd rfl h⟩
 refine gx hA 1 ?_
 refine go_ret ⟨_, by cbv, ?_⟩
 show _ = (PV.bool true)
 rfl
theorem r_laws_eqFetch (A : Alg) (hA : A = std) (x : GFetch) (hk : ∀ k ∈ zsFetch x, (k : Int) ≤ 4611686018427387904) : Real Tryz.prog 115 [.agg (eFetch x), .agg (eFetch x)] (.bool true) := by
 obtain ⟨b4, a4, o2, v6⟩ := x
 obtain ⟨d2, d5⟩ := nm (o2.map eMail)
 have v2 := rlen_map hA d5
 obtain ⟨p4, q7⟩ := nm (v6.map eBool)
 have y3 := rlen_map hA q7
 refine real_args (args' := [.agg [.ii b4, .str a4, .sl 3 d2, .sl 1 p4], .agg [.ii b4, .str a4, .sl 3 d2, .sl 1 p4]]) (by subst d5 q7; rfl) ?_
 refine real tyOk Tryz.func115 (by kernel_rfl) (afun_of rfl ?_)
 refine gx hA 3 ?_
 refine gs (gx hA 5 ?_)
 refine go_cond rfl (fun c1 => ?_) (fun c1 => ?_)
 ·
  exact no_t c1 (show (A.cmp .neq b4 b4) = false from by subst hA; simp [std])
 refine gk (gs (gx hA 5 ?_))
 refine go_cond rfl (fun c2 => ?_) (fun c2 => ?_)
 ·
  exact no_t c2 (show (A.scmp .neq a4 a4) = false from by subst hA; simp [std])
 refine gk (gs (gs (gr (rn hA 4 ?_))))
 have hc4 : Real Tryz.prog 155 [.sl 3 d2, .sl 3 d2] (.bool true) := by subst d5; exact r_laws_eqMailS A hA o2 (fun k h => hk k (by simp only [zsFetch, List.mem_append]; simp only [h, true_or, or_true]))
 refine ops_callV rfl rfl (by cbv) (by cbv) hc4 (.inr rfl) (by cbv) ?_
 refine rz hA 1 ?_
 refine go_cond rfl (fun c5 => ?_) (fun c5 => ?_)
 ·
  exact no_t c5 (show (A.bnot true) = false from by subst hA; rfl)
 refine gk (gs (gs (gr (rn hA 4 ?_))))
 have hc7 : Real Tryz.prog 156 [.sl 1 p4, .sl 1 p4] (.bool true) := by subst q7; exact r_laws_eqBoolS A hA v6 (fun k h => hk k (by simp only [zsFetch, List.mem_append]; simp only [h, true_or, or_true]))
 refine ops_callV rfl rfl (by cbv) (by cbv) hc7 (.inr rfl) (by cbv) ?_
 refine rz hA 1 ?_
 refine go_cond rfl (fun c8 => ?_) (fun c8 => ?_)
 ·
  exact no_t c8 (show (A.bnot true) = false from by subst hA; rfl)
 refine gk (gx hA 1 ?_)
 refine go_ret ⟨_, by cbv, ?_⟩
 show _ = (PV.bool true)
 rfl
theorem r_laws_eqLook (A : Alg) (hA : A = std) (x : GLook) (hk : ∀ k ∈ zsLook x, (k : Int) ≤ 4611686018427387904) : Real Tryz.prog 116 [.agg (eLook x), .agg (eLook x)] (.bool true) := by
 obtain ⟨b4, a4, t8, b3, v7⟩ := x
 obtain ⟨o6, q4⟩ := nm (v7.map eInt)
 have y6 := rlen_map hA q4
 refine real_args (args' := [.agg [.ii b4, .str a4, .str t8, .ii b3, .sl 1 o6], .agg [.ii b4, .str a4, .str t8, .ii b3, .sl 1 o6]]) (by subst q4; rfl) ?_
 refine real tyOk Tryz.func116 (by kernel_rfl) (afun_of rfl ?_)
 refine gx hA 3 ?_
 refine gs (gx hA 5 ?_)
 refine go_cond rfl (fun c1 => ?_) (fun c1 => ?_)
 ·
  exact no_t c1 (show (A.cmp .neq b4 b4) = false from by subst hA; simp [std])
 refine gk (gs (gx hA 5 ?_))
 refine go_cond rfl (fun c2 => ?_) (fun c2 => ?_)
 ·
  exact no_t c2 (show (A.scmp .neq a4 a4) = false from by subst hA; simp [std])
 refine gk (gs (gx hA 5 ?_))
 refine go_cond rfl (fun c3 => ?_) (fun c3 => ?_)
 ·
  exact no_t c3 (show (A.scmp .neq t8 t8) = false from by subst hA; simp [std])
 refine gk (gs (gx hA 5 ?_))
 refine go_cond rfl (fun c4 => ?_) (fun c4 => ?_)
 ·
  exact no_t c4 (show (A.cmp .neq b3 b3) = false from by subst hA; simp [std])
 refine gk (gs (gs (gr (rn hA 4 ?_))))
 have hc6 : Real Tryz.prog 67 [.sl 1 o6, .sl 1 o6] (.bool true) := by subst q4; exact r_laws_eqIntS A hA v7 (fun k h => hk k (by simp only [zsLook, List.mem_append]; simp only [h, true_or, or_true]))
 refine ops_callV rfl rfl (by cbv) (by cbv) hc6 (.inr rfl) (by cbv) ?_
 refine rz hA 1 ?_
 refine go_cond rfl (fun c7 => ?_) (fun c7 => ?_)
 ·
  exact no_t c7 (show (A.bnot true) = false from by subst hA; rfl)
 refine gk (gx hA 1 ?_)
 refine go_ret ⟨_, by cbv, ?_⟩
 show _ = (PV.bool true)
 rfl
theorem r_laws_eqSession (A : Alg) (hA : A = std) (x : GSession) (hk : ∀ k ∈ zsSession x, (k : Int) ≤ 4611686018427387904) : Real Tryz.prog 68 [.agg (eSession x), .agg (eSession x)] (.bool true) := by
 obtain ⟨k0, v1, t6, s4, ⟨d9, f1, s8, q9⟩, ⟨e0, f0, p8, q2⟩, ⟨e8, g3, k9, e6, r7⟩⟩ := x
 obtain ⟨i7, m3⟩ := nm (s8.map eString)
 have x2 := rlen_map hA m3
 obtain ⟨f5, k6⟩ := nm (q9.map eString)
 have w8 := rlen_map hA k6
 obtain ⟨e3, i6⟩ := nm (p8.map eMail)
 have w4 := rlen_map hA i6
 obtain ⟨f2, k3⟩ := nm (q2.map eBool)
 have w6 := rlen_map hA k3
 obtain ⟨g7, l0⟩ := nm (r7.map eInt)
 have x0 := rlen_map hA l0
 refine real_args (args' := [.agg [.ii k0, .str v1, .str t6, .bool s4, .ii d9, .str f1, .sl 1 i7, .sl 1 f5, .ii e0, .str f0, .sl 3 e3, .sl 1 f2, .ii e8, .str g3, .str k9, .ii e6, .sl 1 g7], .agg [.ii k0, .str v1, .str t6, .bool s4, .ii d9, .str f1, .sl 1 i7, .sl 1 f5, .ii e0, .str f0, .sl 3 e3, .sl 1 f2, .ii e8, .str g3, .str k9, .ii e6, .sl 1 g7]]) (by subst m3 k6 i6 k3 l0; rfl) ?_
 refine real tyOk Tryz.func68 (by kernel_rfl) (afun_of rfl ?_)
 refine gx hA 3 ?_
 refine gs (gx hA 5 ?_)
 refine go_cond rfl (fun c1 => ?_) (fun c1 => ?_)
 ·
  exact no_t c1 (show (A.cmp .neq k0 k0) = false from by subst hA; simp [std])
 refine gk (gs (gx hA 5 ?_))
 refine go_cond rfl (fun c2 => ?_) (fun c2 => ?_)
 ·
  exact no_t c2 (show (A.scmp .neq v1 v1) = false from by subst hA; simp [std])
 refine gk (gs (gx hA 5 ?_))
 refine go_cond rfl (fun c3 => ?_) (fun c3 => ?_)
 ·
  exact no_t c3 (show (A.scmp .neq t6 t6) = false from by subst hA; simp [std])
 refine gk (gs (gx hA 5 ?_))
 refine go_cond rfl (fun c4 => ?_) (fun c4 => ?_)
 ·
  exact no_t c4 (show (A.bnot (A.beq s4 s4)) = false from by subst hA; simp [std])
 refine gk (gs (gs (gr (rn hA 4 ?_))))
 have hc6 : Real Tryz.prog 114 [.agg [.ii d9, .str f1, .sl 1 i7, .sl 1 f5], .agg [.ii d9, .str f1, .sl 1 i7, .sl 1 f5]] (.bool true) := by subst m3 k6; exact r_laws_eqBring A hA (⟨d9, f1, s8, q9⟩ : GBring) (fun k h => hk k (by simp only [zsSession, List.mem_append]; simp only [h, true_or, or_true]))
 refine ops_callV rfl rfl (by cbv) (by cbv) hc6 (.inr rfl) (by cbv) ?_
 refine rz hA 1 ?_
 refine go_cond rfl (fun c7 => ?_) (fun c7 => ?_)
 ·
  exact no_t c7 (show (A.bnot true) = false from by subst hA; rfl)
 refine gk (gs (gs (gr (rn hA 4 ?_))))
 have hc9 : Real Tryz.prog 115 [.agg [.ii e0, .str f0, .sl 3 e3, .sl 1 f2], .agg [.ii e0, .str f0, .sl 3 e3, .sl 1 f2]] (.bool true) := by subst i6 k3; exact r_laws_eqFetch A hA (⟨e0, f0, p8, q2⟩ : GFetch) (fun k h => hk k (by simp only [zsSession, List.mem_append]; simp only [h, true_or, or_true]))
 refine ops_callV rfl rfl (by cbv) (by cbv) hc9 (.inr rfl) (by cbv) ?_
 refine rz hA 1 ?_
 refine go_cond rfl (fun c10 => ?_) (fun c10 => ?_)
 ·
  exact no_t c10 (show (A.bnot true) = false from by subst hA; rfl)
 refine gk (gs (gs (gr (rn hA 4 ?_))))
 have y7 : Real Tryz.prog 116 [.agg [.ii e8, .str g3, .str k9, .ii e6, .sl 1 g7], .agg [.ii e8, .str g3, .str k9, .ii e6, .sl 1 g7]] (.bool true) := by subst l0; exact r_laws_eqLook A hA (⟨e8, g3, k9, e6, r7⟩ : GLook) (fun k h => hk k (by simp only [zsSession, List.mem_append]; simp only [h, true_or, or_true]))
 refine ops_callV rfl rfl (by cbv) (by cbv) y7 (.inr rfl) (by cbv) ?_
 refine rz hA 1 ?_
 refine go_cond rfl (fun c13 => ?_) (fun c13 => ?_)
 ·
  exact no_t c13 (show (A.bnot true) = false from by subst hA; rfl)
 refine gk (gx hA 1 ?_)
 refine go_ret ⟨_, by cbv, ?_⟩
 show _ = (PV.bool true)
 rfl
def S35_1 (p0 : RR) (p1 : Int) : St := { sl := [.sl 17 p0, .sl 17 p0, .bad, .bad, .bad, .ii p1, .bad, .bad, .bad, .bad, .bad, .bad, .bad, .bad, .bad, .bad, .bad, .bad, .bad, .bad, .bad, .bad, .bad, .bad, .bad, .bad, .bad], bl := [] }
theorem r_laws_eqSessionS (A : Alg) (hA : A = std) (xs : List GSession) (hk : ∀ k ∈ zsSessionS xs, (k : Int) ≤ 4611686018427387904) : Real Tryz.prog 35 [.sl 17 (List.map eSession xs), .sl 17 (List.map eSession xs)] (.bool true) := by
 obtain ⟨a0, a1⟩ := nm (xs.map eSession)
 have n3 := rlen_map hA a1
 refine real_args (args' := [.sl 17 a0, .sl 17 a0]) (by subst a1; rfl) ?_
 have hlen : (List.length xs : Int) ≤ 4611686018427387904 := hk _ (by simp [zsSessionS])
 refine real tyOk Tryz.func35 (by kernel_rfl) (afun_of rfl ?_)
 refine gx hA 1 ?_
 refine gs (gx hA 5 ?_)
 refine go_cond rfl (fun c1 => ?_) (fun c1 => ?_)
 ·
  exact no_t c1 (show (A.cmp .neq (A.rlen a0) (A.rlen a0)) = false from by subst hA; simp [std])
 refine gk (gs (gx hA 1 ?_))
 refine go_block ?_
 refine go_loopE (fun σ m => ∃ (i : Nat) (n5 : Int), σ = (S35_1 a0 n5) ∧ (n5 = (i : Int) ∧ i ≤ List.length xs) ∧ m = List.length xs - i) _ [] [0, 1, 5] [] (S35_1 a0 0) rfl (by cbv) ⟨0, 0, rfl, ?_, rfl⟩ (fun σ m hI => ?_)
 ·
  exact ⟨rfl, Nat.zero_le _⟩
 obtain ⟨i, n5, rfl, ⟨hn5, hi⟩, rfl⟩ := hI
 refine gs (gx hA 4 ?_)
 refine go_cond rfl (fun c2 => ?_) (fun c2 => ?_)
 ·
  have ec2 : n5 < (A.rlen a0) := lss_t hA c2
  refine gk (gs ?_)
  refine go_block ?_
  refine gs ?_
  refine go_draw [0, 1, 2, 3, 4, 5, 6, 7, 8, 9] (by cbv) ?_
  refine dn_ hA 2 ?_
  have b2 : (0 : Int) ≤ n5 := by
   omega
  have e9 : (Int.toNat n5) < List.length xs := by
   omega
  obtain ⟨x3, hx3⟩ : ∃ x, (xs)[(Int.toNat n5)]? = some x := ⟨_, List.getElem?_eq_getElem e9⟩
  have j9 := List.mem_of_getElem? hx3
  obtain ⟨r1, t9, r8, r5, ⟨f8, g8, r6, q0⟩, ⟨f3, g9, o1, p9⟩, ⟨i0, k4, l6, g6, q3⟩⟩ := x3
  obtain ⟨m4, l2⟩ := nm (r6.map eString)
  have x1 := rlen_map hA l2
  obtain ⟨i8, i5⟩ := nm (q0.map eString)
  have w1 := rlen_map hA i5
  obtain ⟨i1, g0⟩ := nm (o1.map eMail)
  have w0 := rlen_map hA g0
  obtain ⟨j0, i2⟩ := nm (p9.map eBool)
  have w5 := rlen_map hA i2
  obtain ⟨l1, j8⟩ := nm (q3.map eInt)
  have w9 := rlen_map hA j8
  have b1 : a0[(Int.toNat n5)]? = some [.ii r1, .str t9, .str r8, .bool r5, .ii f8, .str g8, .sl 1 m4, .sl 1 i8, .ii f3, .str g9, .sl 3 i1, .sl 1 j0, .ii i0, .str k4, .str l6, .ii g6, .sl 1 l1] := by
   subst l2 i5 g0 i2 j8; exact map_at eSession a1 hx3
  have hkx := fun (k : Nat) h => hk k (List.mem_cons_of_mem _ (List.mem_flatMap.2 ⟨_, j9, h⟩))
  refine dops_step rfl rfl rfl (idx_sl rfl rfl rfl rfl rfl b2 rfl b1) ?_
  refine dn_ hA 3 ?_
  refine dops_step rfl rfl rfl (idx_sl rfl rfl rfl rfl rfl b2 rfl b1) ?_
  refine dn_ hA 1 ?_
  have hc5 : Real Tryz.prog 68 [.agg [.ii r1, .str t9, .str r8, .bool r5, .ii f8, .str g8, .sl 1 m4, .sl 1 i8, .ii f3, .str g9, .sl 3 i1, .sl 1 j0, .ii i0, .str k4, .str l6, .ii g6, .sl 1 l1], .agg [.ii r1, .str t9, .str r8, .bool r5, .ii f8, .str g8, .sl 1 m4, .sl 1 i8, .ii f3, .str g9, .sl 3 i1, .sl 1 j0, .ii i0, .str k4, .str l6, .ii g6, .sl 1 l1]] (.bool true) := by subst l2 i5 g0 i2 j8; exact r_laws_eqSession A hA (⟨r1, t9, r8, r5, ⟨f8, g8, r6, q0⟩, ⟨f3, g9, o1, p9⟩, ⟨i0, k4, l6, g6, q3⟩⟩ : GSession) hkx
  refine dops_callV rfl rfl (by cbv) (by cbv) hc5 (.inr rfl) ?_
  refine dz hA 1 ?_
  refine go_cond rfl (fun c6 => ?_) (fun c6 => ?_)
  ·
   exact no_t c6 (show (A.bnot true) = false from by subst hA; rfl)
  refine gk (gy hA 3 ?_)
  refine ⟨(S35_1 a0 (A.num .add .i64 n5 1)), List.length xs - (i + 1), ?_, by cbv, i + 1, (A.num .add .i64 n5 1), rfl, ?_, rfl⟩
  ·
   omega
  exact ⟨by rw [add_i64 hA (by omega) (by omega)]; omega, by omega⟩
 have ec2 : (A.rlen a0) ≤ n5 := lss_f hA c2
 refine go_exit ⟨fun _ => ?_, fun h => absurd rfl h⟩
 refine gx hA 1 ?_
 refine go_ret ⟨_, by cbv, ?_⟩
 show _ = (PV.bool true)
 rfl
theorem r_laws_eqServer (A : Alg) (hA : A = std) (x : GServer) (hk : ∀ k ∈ zsServer x, (k : Int) ≤ 4611686018427387904) : Real Tryz.prog 11 [.agg (eServer x), .agg (eServer x)] (.bool true) := by
 obtain ⟨⟨⟨⟨e7, g2⟩, b9, m7, a8, a7, b6, a3⟩, q1⟩, j5⟩ := x
 obtain ⟨a2, b0⟩ := nm (e7.map eString)
 have t1 := rlen_map hA b0
 obtain ⟨a6, b7⟩ := nm (g2.map eWrite)
 have u1 := rlen_map hA b7
 obtain ⟨d0, e2⟩ := nm (m7.map eSeg)
 have v3 := rlen_map hA e2
 obtain ⟨e5, i3⟩ := nm (q1.map eInt)
 have w2 := rlen_map hA i3
 obtain ⟨a5, b5⟩ := nm (j5.map eSession)
 have t2 := rlen_map hA b5
 refine real_args (args' := [.agg [.sl 1 a2, .sl 2 a6, .ii b9, .sl 4 d0, .ii a8, .ii a7, .ii b6, .ii a3, .sl 1 e5, .sl 17 a5], .agg [.sl 1 a2, .sl 2 a6, .ii b9, .sl 4 d0, .ii a8, .ii a7, .ii b6, .ii a3, .sl 1 e5, .sl 17 a5]]) (by subst b0 b7 e2 i3 b5; rfl) ?_
 refine real tyOk Tryz.func11 (by kernel_rfl) (afun_of rfl ?_)
 refine gx hA 3 ?_
 refine gs (gs (gr (rn hA 4 ?_)))
 have hc2 : Real Tryz.prog 34 [.agg [.sl 1 a2, .sl 2 a6, .ii b9, .sl 4 d0, .ii a8, .ii a7, .ii b6, .ii a3, .sl 1 e5], .agg [.sl 1 a2, .sl 2 a6, .ii b9, .sl 4 d0, .ii a8, .ii a7, .ii b6, .ii a3, .sl 1 e5]] (.bool true) := by subst b0 b7 e2 i3; exact r_laws_eqStore A hA (⟨⟨⟨e7, g2⟩, b9, m7, a8, a7, b6, a3⟩, q1⟩ : GStore) (fun k h => hk k (by simp only [zsServer, List.mem_append]; simp only [h, true_or, or_true]))
 refine ops_callV rfl rfl (by cbv) (by cbv) hc2 (.inr rfl) (by cbv) ?_
 refine rz hA 1 ?_
 refine go_cond rfl (fun c3 => ?_) (fun c3 => ?_)
 ·
  exact no_t c3 (show (A.bnot true) = false from by subst hA; rfl)
 refine gk (gs (gs (gr (rn hA 4 ?_))))
 have hc5 : Real Tryz.prog 35 [.sl 17 a5, .sl 17 a5] (.bool true) := by subst b5; exact r_laws_eqSessionS A hA j5 (fun k h => hk k (by simp only [zsServer, List.mem_append]; simp only [h, true_or, or_true]))
 refine ops_callV rfl rfl (by cbv) (by cbv) hc5 (.inr rfl) (by cbv) ?_
 refine rz hA 1 ?_
 refine go_cond rfl (fun c6 => ?_) (fun c6 => ?_)
 ·
  exact no_t c6 (show (A.bnot true) = false from by subst hA; rfl)
 refine gk (gx hA 1 ?_)
 refine go_ret ⟨_, by cbv, ?_⟩
 show _ = (PV.bool true)
 rfl
theorem r_laws_eqBox (A : Alg) (hA : A = std) (x : GBox) (hk : ∀ k ∈ zsBox x, (k : Int) ≤ 4611686018427387904) : Real Tryz.prog 124 [.agg (eBox x), .agg (eBox x)] (.bool true) := by
 obtain ⟨b3, a4, j4, j6, o2⟩ := x
 obtain ⟨d2, d5⟩ := nm (o2.map eMail)
 have v2 := rlen_map hA d5
 refine real_args (args' := [.agg [.ii b3, .str a4, .str j4, .ii j6, .sl 3 d2], .agg [.ii b3, .str a4, .str j4, .ii j6, .sl 3 d2]]) (by subst d5; rfl) ?_
 refine real tyOk Tryz.func124 (by kernel_rfl) (afun_of rfl ?_)
 refine gx hA 3 ?_
 refine gs (gx hA 5 ?_)
 refine go_cond rfl (fun c1 => ?_) (fun c1 => ?_)
 ·
  exact no_t c1 (show (A.cmp .neq b3 b3) = false from by subst hA; simp [std])
 refine gk (gs (gx hA 5 ?_))
 refine go_cond rfl (fun c2 => ?_) (fun c2 => ?_)
 ·
  exact no_t c2 (show (A.scmp .neq a4 a4) = false from by subst hA; simp [std])
 refine gk (gs (gx hA 5 ?_))
 refine go_cond rfl (fun c3 => ?_) (fun c3 => ?_)
 ·
  exact no_t c3 (show (A.scmp .neq j4 j4) = false from by subst hA; simp [std])
 refine gk (gs (gx hA 5 ?_))
 refine go_cond rfl (fun c4 => ?_) (fun c4 => ?_)
 ·
  exact no_t c4 (show (A.cmp .neq j6 j6) = false from by subst hA; simp [std])
 refine gk (gs (gs (gr (rn hA 4 ?_))))
 have hc6 : Real Tryz.prog 155 [.sl 3 d2, .sl 3 d2] (.bool true) := by subst d5; exact r_laws_eqMailS A hA o2 (fun k h => hk k (by simp only [zsBox, List.mem_append]; simp only [h, true_or, or_true]))
 refine ops_callV rfl rfl (by cbv) (by cbv) hc6 (.inr rfl) (by cbv) ?_
 refine rz hA 1 ?_
 refine go_cond rfl (fun c7 => ?_) (fun c7 => ?_)
 ·
  exact no_t c7 (show (A.bnot true) = false from by subst hA; rfl)
 refine gk (gx hA 1 ?_)
 refine go_ret ⟨_, by cbv, ?_⟩
 show _ = (PV.bool true)
 rfl
def S87_1 (p0 : RR) (p1 : Int) : St := { sl := [.sl 5 p0, .sl 5 p0, .bad, .bad, .bad, .ii p1, .bad, .bad, .bad, .bad, .bad, .bad, .bad, .bad, .bad, .bad, .bad, .bad, .bad, .bad, .bad, .bad, .bad, .bad, .bad, .bad, .bad], bl := [] }
theorem r_laws_eqBoxS (A : Alg) (hA : A = std) (xs : List GBox) (hk : ∀ k ∈ zsBoxS xs, (k : Int) ≤ 4611686018427387904) : Real Tryz.prog 87 [.sl 5 (List.map eBox xs), .sl 5 (List.map eBox xs)] (.bool true) := by
 obtain ⟨a0, a1⟩ := nm (xs.map eBox)
 have n3 := rlen_map hA a1
 refine real_args (args' := [.sl 5 a0, .sl 5 a0]) (by subst a1; rfl) ?_
 have hlen : (List.length xs : Int) ≤ 4611686018427387904 := hk _ (by simp [zsBoxS])
 refine real tyOk Tryz.func87 (by kernel_rfl) (afun_of rfl ?_)
 refine gx hA 1 ?_
 refine gs (gx hA 5 ?_)
 refine go_cond rfl (fun c1 => ?_) (fun c1 => ?_)
 ·
  exact no_t c1 (show (A.cmp .neq (A.rlen a0) (A.rlen a0)) = false from by subst hA; simp [std])
 refine gk (gs (gx hA 1 ?_))
 refine go_block ?_
 refine go_loopE (fun σ m => ∃ (i : Nat) (n5 : Int), σ = (S87_1 a0 n5) ∧ (n5 = (i : Int) ∧ i ≤ List.length xs) ∧ m = List.length xs - i) _ [] [0, 1, 5] [] (S87_1 a0 0) rfl (by cbv) ⟨0, 0, rfl, ?_, rfl⟩ (fun σ m hI => ?_)
 ·
  exact ⟨rfl, Nat.zero_le _⟩
 obtain ⟨i, n5, rfl, ⟨hn5, hi⟩, rfl⟩ := hI
 refine gs (gx hA 4 ?_)
 refine go_cond rfl (fun c2 => ?_) (fun c2 => ?_)
 ·
  have ec2 : n5 < (A.rlen a0) := lss_t hA c2
  refine gk (gs ?_)
  refine go_block ?_
  refine gs ?_
  refine go_draw [0, 1, 2, 3, 4, 5, 6, 7, 8, 9] (by cbv) ?_
  refine dn_ hA 2 ?_
  have b2 : (0 : Int) ≤ n5 := by
   omega
  have e9 : (Int.toNat n5) < List.length xs := by
   omega
  obtain ⟨x3, hx3⟩ : ∃ x, (xs)[(Int.toNat n5)]? = some x := ⟨_, List.getElem?_eq_getElem e9⟩
  have j9 := List.mem_of_getElem? hx3
  obtain ⟨p2, r2, r4, r3, u3⟩ := x3
  obtain ⟨o3, n9⟩ := nm (u3.map eMail)
  have x8 := rlen_map hA n9
  have b1 : a0[(Int.toNat n5)]? = some [.ii p2, .str r2, .str r4, .ii r3, .sl 3 o3] := by
   subst n9; exact map_at eBox a1 hx3
  have hkx := fun (k : Nat) h => hk k (List.mem_cons_of_mem _ (List.mem_flatMap.2 ⟨_, j9, h⟩))
  refine dops_step rfl rfl rfl (idx_sl rfl rfl rfl rfl rfl b2 rfl b1) ?_
  refine dn_ hA 3 ?_
  refine dops_step rfl rfl rfl (idx_sl rfl rfl rfl rfl rfl b2 rfl b1) ?_
  refine dn_ hA 1 ?_
  have hc5 : Real Tryz.prog 124 [.agg [.ii p2, .str r2, .str r4, .ii r3, .sl 3 o3], .agg [.ii p2, .str r2, .str r4, .ii r3, .sl 3 o3]] (.bool true) := by subst n9; exact r_laws_eqBox A hA (⟨p2, r2, r4, r3, u3⟩ : GBox) hkx
  refine dops_callV rfl rfl (by cbv) (by cbv) hc5 (.inr rfl) ?_
  refine dz hA 1 ?_
  refine go_cond rfl (fun c6 => ?_) (fun c6 => ?_)
  ·
   exact no_t c6 (show (A.bnot true) = false from by subst hA; rfl)
  refine gk (gy hA 3 ?_)
  refine ⟨(S87_1 a0 (A.num .add .i64 n5 1)), List.length xs - (i + 1), ?_, by cbv, i + 1, (A.num .add .i64 n5 1), rfl, ?_, rfl⟩
  ·
   omega
  exact ⟨by rw [add_i64 hA (by omega) (by omega)]; omega, by omega⟩
 have ec2 : (A.rlen a0) ≤ n5 := lss_f hA c2
 refine go_exit ⟨fun _ => ?_, fun h => absurd rfl h⟩
 refine gx hA 1 ?_
 refine go_ret ⟨_, by cbv, ?_⟩
 show _ = (PV.bool true)
 rfl
theorem r_laws_eqState (A : Alg) (hA : A = std) (x : GState) (hk : ∀ k ∈ zsState x, (k : Int) ≤ 4611686018427387904) : Real Tryz.prog 48 [.agg (eState x), .agg (eState x)] (.bool true) := by
 obtain ⟨u7⟩ := x
 obtain ⟨n2, o4⟩ := nm (u7.map eBox)
 have y1 := rlen_map hA o4
 refine real_args (args' := [.agg [.sl 5 n2], .agg [.sl 5 n2]]) (by subst o4; rfl) ?_
 refine real tyOk Tryz.func48 (by kernel_rfl) (afun_of rfl ?_)
 refine gx hA 3 ?_
 refine gs (gs (gr (rn hA 4 ?_)))
 have hc2 : Real Tryz.prog 87 [.sl 5 n2, .sl 5 n2] (.bool true) := by subst o4; exact r_laws_eqBoxS A hA u7 (fun k h => hk k (by simp only [zsState, List.mem_append]; simp only [h, true_or, or_true]))
 refine ops_callV rfl rfl (by cbv) (by cbv) hc2 (.inr rfl) (by cbv) ?_
 refine rz hA 1 ?_
 refine go_cond rfl (fun c3 => ?_) (fun c3 => ?_)
 ·
  exact no_t c3 (show (A.bnot true) = false from by subst hA; rfl)
 refine gk (gx hA 1 ?_)
 refine go_ret ⟨_, by cbv, ?_⟩
 show _ = (PV.bool true)
 rfl
theorem r_laws_eqPlain (A : Alg) (hA : A = std) (x : GPlain) (hk : ∀ k ∈ zsPlain x, (k : Int) ≤ 4611686018427387904) : Real Tryz.prog 20 [.agg (ePlain x), .agg (ePlain x)] (.bool true) := by
 obtain ⟨⟨p7⟩, a9, j5⟩ := x
 obtain ⟨e4, i4⟩ := nm (p7.map eBox)
 have w3 := rlen_map hA i4
 obtain ⟨a5, b5⟩ := nm (j5.map eSession)
 have t2 := rlen_map hA b5
 refine real_args (args' := [.agg [.sl 5 e4, .ii a9, .sl 17 a5], .agg [.sl 5 e4, .ii a9, .sl 17 a5]]) (by subst i4 b5; rfl) ?_
 refine real tyOk Tryz.func20 (by kernel_rfl) (afun_of rfl ?_)
 refine gx hA 3 ?_
 refine gs (gs (gr (rn hA 4 ?_)))
 have hc2 : Real Tryz.prog 48 [.agg [.sl 5 e4], .agg [.sl 5 e4]] (.bool true) := by subst i4; exact r_laws_eqState A hA (⟨p7⟩ : GState) (fun k h => hk k (by simp only [zsPlain, List.mem_append]; simp only [h, true_or, or_true]))
 refine ops_callV rfl rfl (by cbv) (by cbv) hc2 (.inr rfl) (by cbv) ?_
 refine rz hA 1 ?_
 refine go_cond rfl (fun c3 => ?_) (fun c3 => ?_)
 ·
  exact no_t c3 (show (A.bnot true) = false from by subst hA; rfl)
 refine gk (gs (gx hA 5 ?_))
 refine go_cond rfl (fun c4 => ?_) (fun c4 => ?_)
 ·
  exact no_t c4 (show (A.cmp .neq a9 a9) = false from by subst hA; simp [std])
 refine gk (gs (gs (gr (rn hA 4 ?_))))
 have hc6 : Real Tryz.prog 35 [.sl 17 a5, .sl 17 a5] (.bool true) := by subst b5; exact r_laws_eqSessionS A hA j5 (fun k h => hk k (by simp only [zsPlain, List.mem_append]; simp only [h, true_or, or_true]))
 refine ops_callV rfl rfl (by cbv) (by cbv) hc6 (.inr rfl) (by cbv) ?_
 refine rz hA 1 ?_
 refine go_cond rfl (fun c7 => ?_) (fun c7 => ?_)
 ·
  exact no_t c7 (show (A.bnot true) = false from by subst hA; rfl)
 refine gk (gx hA 1 ?_)
 refine go_ret ⟨_, by cbv, ?_⟩
 show _ = (PV.bool true)
 rfl
end Go.Av

/- Walks: eq of servers. -/
import Derived.Test.YtjbokkoiicoahaaGreatTy
namespace Go.Av
open Go Go.Proofs
set_option maxRecDepth 100000
set_option maxHeartbeats 4000000
set_option linter.unusedVariables false
set_option linter.unusedSimpArgs false
def S152_1 (p0 : RR) (p1 : Int) : St := { sl := [.sl 1 p0, .sl 1 p0, .bad, .bad, .bad, .int .i64 p1, .bad, .bad, .bad, .bad, .bad, .bad, .bad, .bad, .bad, .bad, .bad, .bad, .bad, .bad, .bad, .bad, .bad, .bad, .bad, .bad], bl := [] }
theorem r_laws_eqStringS (A : Alg) (hA : A = std) (xs : List ByteArray) (hk : ∀ k ∈ zsStringS xs, (k : Int) ≤ 4611686018427387904) : Real Tryz.prog 152 [.sl 1 (List.map eString xs), .sl 1 (List.map eString xs)] (.bool true) := by
 obtain ⟨a0, a1⟩ := nm (xs.map eString)
 have n2 := rlen_map hA a1
 refine real_args (args' := [.sl 1 a0, .sl 1 a0]) (by subst a1; rfl) ?_
 have hlen : (List.length xs : Int) ≤ 4611686018427387904 := hk _ (by simp [zsStringS])
 refine real tyOk Tryz.func152 (by kernel_rfl) (afun_of rfl ?_)
 refine gs (gr (ra hA 1 (by cbv) (od ?_)))
 refine gs (gs (gr (ra hA 5 (by cbv) (od ?_))))
 refine go_cond rfl (fun c1 => ?_) (fun c1 => ?_)
 ·
  exact no_t c1 (show (A.cmp .neq (A.rlen a0) (A.rlen a0)) = false from by subst hA; simp [std])
 ·
  refine gk (gs (gs (gr (ra hA 1 (by cbv) (od ?_)))))
  refine go_block ?_
  refine go_loopE (fun σ m => ∃ (i : Nat) (n5 : Int), σ = (S152_1 a0 n5) ∧ (n5 = (i : Int) ∧ i ≤ List.length xs) ∧ m = List.length xs - i) _ [] [0, 1, 5] [] (S152_1 a0 0) rfl (by cbv) ⟨0, 0, rfl, ?_, rfl⟩ (fun σ m hI => ?_)
  ·
   exact ⟨rfl, Nat.zero_le _⟩
  obtain ⟨i, n5, rfl, ⟨hn5, hi⟩, rfl⟩ := hI
  refine gs (gs (gr (ra hA 4 (by cbv) (od ?_))))
  refine go_cond rfl (fun c2 => ?_) (fun c2 => ?_)
  ·
   have ec2 : n5 < (A.rlen a0) := lss_t hA c2
   refine gk (gs ?_)
   refine go_block ?_
   refine gs ?_
   refine go_draw (by cbv) ?_
   refine rd hA 2 (by cbv) ?_
   have b2 : (0 : Int) ≤ n5 := by
    omega
   have g9 : (Int.toNat n5) < List.length xs := by
    omega
   obtain ⟨x3, hx3⟩ : ∃ x, (xs)[(Int.toNat n5)]? = some x := ⟨_, List.getElem?_eq_getElem g9⟩
   have l5 := List.mem_of_getElem? hx3
   have b4 : a0[(Int.toNat n5)]? = some [.str x3] := by
    exact map_at eString a1 hx3
   refine dops_step rfl rfl rfl (idx_sl rfl rfl rfl rfl rfl b2 rfl b4) ?_
   refine rd hA 3 (by cbv) ?_
   refine dops_step rfl rfl rfl (idx_sl rfl rfl rfl rfl rfl b2 rfl b4) ?_
   refine rd hA 2 (by cbv) (dd_ ?_)
   refine go_cond rfl (fun c4 => ?_) (fun c4 => ?_)
   ·
    exact no_t c4 (show (A.scmp .neq x3 x3) = false from by subst hA; simp [std])
   ·
    refine gk (gr (ra hA 3 (by cbv) (od ?_)))
    refine ⟨(S152_1 a0 (A.num .add .i64 n5 1)), List.length xs - (i + 1), ?_, by cbv, i + 1, (A.num .add .i64 n5 1), rfl, ?_, rfl⟩
    ·
     omega
    ·
     exact ⟨by rw [add_i64 hA (by omega) (by omega)]; omega, by omega⟩
  ·
   have ec2 : (A.rlen a0) ≤ n5 := lss_f hA c2
   refine go_exit ⟨fun _ => ?_, fun h => absurd rfl h⟩
   refine gs (gr (ra hA 1 (by cbv) (od ?_)))
   refine go_ret ⟨_, by cbv, ?_⟩
   show _ = (PV.bool true)
   rfl
theorem r_laws_eqWrite (A : Alg) (hA : A = std) (x : GWrite) (hk : ∀ k ∈ zsWrite x, (k : Int) ≤ 4611686018427387904) : Real Tryz.prog 184 [.agg (eWrite x), .agg (eWrite x)] (.bool true) := by
 obtain ⟨t7, b5⟩ := x
 refine real_args (args' := [.agg [.int .i64 t7, .str b5], .agg [.int .i64 t7, .str b5]]) (by rfl) ?_
 refine real tyOk Tryz.func184 (by kernel_rfl) (afun_of rfl ?_)
 refine gs (gr (ra hA 3 (by cbv) (od ?_)))
 refine gs (gs (gr (ra hA 5 (by cbv) (od ?_))))
 refine go_cond rfl (fun c1 => ?_) (fun c1 => ?_)
 ·
  exact no_t c1 (show (A.cmp .neq t7 t7) = false from by subst hA; simp [std])
 ·
  refine gk (gs (gs (gr (ra hA 5 (by cbv) (od ?_)))))
  refine go_cond rfl (fun c2 => ?_) (fun c2 => ?_)
  ·
   exact no_t c2 (show (A.scmp .neq b5 b5) = false from by subst hA; simp [std])
  ·
   refine gk (gs (gr (ra hA 1 (by cbv) (od ?_))))
   refine go_ret ⟨_, by cbv, ?_⟩
   show _ = (PV.bool true)
   rfl
def S153_1 (p0 : RR) (p1 : Int) : St := { sl := [.sl 2 p0, .sl 2 p0, .bad, .bad, .bad, .int .i64 p1, .bad, .bad, .bad, .bad, .bad, .bad, .bad, .bad, .bad, .bad, .bad, .bad, .bad, .bad, .bad, .bad, .bad, .bad, .bad, .bad, .bad], bl := [] }
theorem r_laws_eqWriteS (A : Alg) (hA : A = std) (xs : List GWrite) (hk : ∀ k ∈ zsWriteS xs, (k : Int) ≤ 4611686018427387904) : Real Tryz.prog 153 [.sl 2 (List.map eWrite xs), .sl 2 (List.map eWrite xs)] (.bool true) := by
 obtain ⟨a0, a1⟩ := nm (xs.map eWrite)
 have n2 := rlen_map hA a1
 refine real_args (args' := [.sl 2 a0, .sl 2 a0]) (by subst a1; rfl) ?_
 have hlen : (List.length xs : Int) ≤ 4611686018427387904 := hk _ (by simp [zsWriteS])
 refine real tyOk Tryz.func153 (by kernel_rfl) (afun_of rfl ?_)
 refine gs (gr (ra hA 1 (by cbv) (od ?_)))
 refine gs (gs (gr (ra hA 5 (by cbv) (od ?_))))
 refine go_cond rfl (fun c1 => ?_) (fun c1 => ?_)
 ·
  exact no_t c1 (show (A.cmp .neq (A.rlen a0) (A.rlen a0)) = false from by subst hA; simp [std])
 ·
  refine gk (gs (gs (gr (ra hA 1 (by cbv) (od ?_)))))
  refine go_block ?_
  refine go_loopE (fun σ m => ∃ (i : Nat) (n5 : Int), σ = (S153_1 a0 n5) ∧ (n5 = (i : Int) ∧ i ≤ List.length xs) ∧ m = List.length xs - i) _ [] [0, 1, 5] [] (S153_1 a0 0) rfl (by cbv) ⟨0, 0, rfl, ?_, rfl⟩ (fun σ m hI => ?_)
  ·
   exact ⟨rfl, Nat.zero_le _⟩
  obtain ⟨i, n5, rfl, ⟨hn5, hi⟩, rfl⟩ := hI
  refine gs (gs (gr (ra hA 4 (by cbv) (od ?_))))
  refine go_cond rfl (fun c2 => ?_) (fun c2 => ?_)
  ·
   have ec2 : n5 < (A.rlen a0) := lss_t hA c2
   refine gk (gs ?_)
   refine go_block ?_
   refine gs ?_
   refine go_draw (by cbv) ?_
   refine rd hA 2 (by cbv) ?_
   have b2 : (0 : Int) ≤ n5 := by
    omega
   have g9 : (Int.toNat n5) < List.length xs := by
    omega
   obtain ⟨x3, hx3⟩ : ∃ x, (xs)[(Int.toNat n5)]? = some x := ⟨_, List.getElem?_eq_getElem g9⟩
   have l5 := List.mem_of_getElem? hx3
   obtain ⟨s0, e5⟩ := x3
   have b4 : a0[(Int.toNat n5)]? = some [.int .i64 s0, .str e5] := by
    exact map_at eWrite a1 hx3
   have hkx := fun (k : Nat) h => hk k (List.mem_cons_of_mem _ (List.mem_flatMap.2 ⟨_, l5, h⟩))
   refine dops_step rfl rfl rfl (idx_sl rfl rfl rfl rfl rfl b2 rfl b4) ?_
   refine rd hA 3 (by cbv) ?_
   refine dops_step rfl rfl rfl (idx_sl rfl rfl rfl rfl rfl b2 rfl b4) ?_
   refine rd hA 1 (by cbv) ?_
   have hc5 : Real Tryz.prog 184 [.agg [.int .i64 s0, .str e5], .agg [.int .i64 s0, .str e5]] (.bool true) := by exact r_laws_eqWrite A hA (⟨s0, e5⟩ : GWrite) hkx
   refine dops_callV rfl rfl (by cbv) (by cbv) hc5 (.inr rfl) ?_
   refine rd hA 1 (by cbv) (dd_ ?_)
   refine go_cond rfl (fun c6 => ?_) (fun c6 => ?_)
   ·
    exact no_t c6 (show (A.bnot true) = false from by subst hA; rfl)
   ·
    refine gk (gr (ra hA 3 (by cbv) (od ?_)))
    refine ⟨(S153_1 a0 (A.num .add .i64 n5 1)), List.length xs - (i + 1), ?_, by cbv, i + 1, (A.num .add .i64 n5 1), rfl, ?_, rfl⟩
    ·
     omega
    ·
     exact ⟨by rw [add_i64 hA (by omega) (by omega)]; omega, by omega⟩
  ·
   have ec2 : (A.rlen a0) ≤ n5 := lss_f hA c2
   refine go_exit ⟨fun _ => ?_, fun h => absurd rfl h⟩
   refine gs (gr (ra hA 1 (by cbv) (od ?_)))
   refine go_ret ⟨_, by cbv, ?_⟩
   show _ = (PV.bool true)
   rfl
theorem r_laws_eqDisk (A : Alg) (hA : A = std) (x : GDisk) (hk : ∀ k ∈ zsDisk x, (k : Int) ≤ 4611686018427387904) : Real Tryz.prog 112 [.agg (eDisk x), .agg (eDisk x)] (.bool true) := by
 obtain ⟨r9, t4⟩ := x
 obtain ⟨l0, m1⟩ := nm (r9.map eString)
 have w0 := rlen_map hA m1
 obtain ⟨m5, n4⟩ := nm (t4.map eWrite)
 have w4 := rlen_map hA n4
 refine real_args (args' := [.agg [.sl 1 l0, .sl 2 m5], .agg [.sl 1 l0, .sl 2 m5]]) (by subst m1 n4; rfl) ?_
 refine real tyOk Tryz.func112 (by kernel_rfl) (afun_of rfl ?_)
 refine gs (gr (ra hA 3 (by cbv) (od ?_)))
 refine gs (gs (gr (ra hA 4 (by cbv) ?_)))
 have hc2 : Real Tryz.prog 152 [.sl 1 l0, .sl 1 l0] (.bool true) := by subst m1; exact r_laws_eqStringS A hA r9 (fun k h => hk k (by simp only [zsDisk, List.mem_append]; simp only [h, true_or, or_true]))
 refine ops_callV rfl rfl (by cbv) (by cbv) hc2 (.inr rfl) (by cbv) ?_
 refine ra hA 1 (by cbv) (od ?_)
 refine go_cond rfl (fun c3 => ?_) (fun c3 => ?_)
 ·
  exact no_t c3 (show (A.bnot true) = false from by subst hA; rfl)
 ·
  refine gk (gs (gs (gr (ra hA 4 (by cbv) ?_))))
  have hc5 : Real Tryz.prog 153 [.sl 2 m5, .sl 2 m5] (.bool true) := by subst n4; exact r_laws_eqWriteS A hA t4 (fun k h => hk k (by simp only [zsDisk, List.mem_append]; simp only [h, true_or, or_true]))
  refine ops_callV rfl rfl (by cbv) (by cbv) hc5 (.inr rfl) (by cbv) ?_
  refine ra hA 1 (by cbv) (od ?_)
  refine go_cond rfl (fun c6 => ?_) (fun c6 => ?_)
  ·
   exact no_t c6 (show (A.bnot true) = false from by subst hA; rfl)
  ·
   refine gk (gs (gr (ra hA 1 (by cbv) (od ?_))))
   refine go_ret ⟨_, by cbv, ?_⟩
   show _ = (PV.bool true)
   rfl
theorem r_laws_eqRec (A : Alg) (hA : A = std) (x : GRec) (hk : ∀ k ∈ zsRec x, (k : Int) ≤ 4611686018427387904) : Real Tryz.prog 209 [.agg (eRec x), .agg (eRec x)] (.bool true) := by
 obtain ⟨j7, f0, l9, q4, e9, b8, r1, b5⟩ := x
 refine real_args (args' := [.agg [.int .i64 j7, .int .i64 f0, .int .i64 l9, .int .i64 q4, .int .i64 e9, .str b8, .str r1, .str b5], .agg [.int .i64 j7, .int .i64 f0, .int .i64 l9, .int .i64 q4, .int .i64 e9, .str b8, .str r1, .str b5]]) (by rfl) ?_
 refine real tyOk Tryz.func209 (by kernel_rfl) (afun_of rfl ?_)
 refine gs (gr (ra hA 3 (by cbv) (od ?_)))
 refine gs (gs (gr (ra hA 5 (by cbv) (od ?_))))
 refine go_cond rfl (fun c1 => ?_) (fun c1 => ?_)
 ·
  exact no_t c1 (show (A.cmp .neq j7 j7) = false from by subst hA; simp [std])
 ·
  refine gk (gs (gs (gr (ra hA 5 (by cbv) (od ?_)))))
  refine go_cond rfl (fun c2 => ?_) (fun c2 => ?_)
  ·
   exact no_t c2 (show (A.cmp .neq f0 f0) = false from by subst hA; simp [std])
  ·
   refine gk (gs (gs (gr (ra hA 5 (by cbv) (od ?_)))))
   refine go_cond rfl (fun c3 => ?_) (fun c3 => ?_)
   ·
    exact no_t c3 (show (A.cmp .neq l9 l9) = false from by subst hA; simp [std])
   ·
    refine gk (gs (gs (gr (ra hA 5 (by cbv) (od ?_)))))
    refine go_cond rfl (fun c4 => ?_) (fun c4 => ?_)
    ·
     exact no_t c4 (show (A.cmp .neq q4 q4) = false from by subst hA; simp [std])
    ·
     refine gk (gs (gs (gr (ra hA 5 (by cbv) (od ?_)))))
     refine go_cond rfl (fun c5 => ?_) (fun c5 => ?_)
     ·
      exact no_t c5 (show (A.cmp .neq e9 e9) = false from by subst hA; simp [std])
     ·
      refine gk (gs (gs (gr (ra hA 5 (by cbv) (od ?_)))))
      refine go_cond rfl (fun c6 => ?_) (fun c6 => ?_)
      ·
       exact no_t c6 (show (A.scmp .neq b8 b8) = false from by subst hA; simp [std])
      ·
       refine gk (gs (gs (gr (ra hA 5 (by cbv) (od ?_)))))
       refine go_cond rfl (fun c7 => ?_) (fun c7 => ?_)
       ·
        exact no_t c7 (show (A.scmp .neq r1 r1) = false from by subst hA; simp [std])
       ·
        refine gk (gs (gs (gr (ra hA 5 (by cbv) (od ?_)))))
        refine go_cond rfl (fun c8 => ?_) (fun c8 => ?_)
        ·
         exact no_t c8 (show (A.scmp .neq b5 b5) = false from by subst hA; simp [std])
        ·
         refine gk (gs (gr (ra hA 1 (by cbv) (od ?_))))
         refine go_ret ⟨_, by cbv, ?_⟩
         show _ = (PV.bool true)
         rfl
theorem r_laws_eqItem (A : Alg) (hA : A = std) (x : GItem) (hk : ∀ k ∈ zsItem x, (k : Int) ≤ 4611686018427387904) : Real Tryz.prog 195 [.agg (eItem x), .agg (eItem x)] (.bool true) := by
 obtain ⟨s3, ⟨j0, f7, l2, i2, f8, i1, j8, j4⟩⟩ := x
 refine real_args (args' := [.agg [.int .i64 s3, .int .i64 j0, .int .i64 f7, .int .i64 l2, .int .i64 i2, .int .i64 f8, .str i1, .str j8, .str j4], .agg [.int .i64 s3, .int .i64 j0, .int .i64 f7, .int .i64 l2, .int .i64 i2, .int .i64 f8, .str i1, .str j8, .str j4]]) (by rfl) ?_
 refine real tyOk Tryz.func195 (by kernel_rfl) (afun_of rfl ?_)
 refine gs (gr (ra hA 3 (by cbv) (od ?_)))
 refine gs (gs (gr (ra hA 5 (by cbv) (od ?_))))
 refine go_cond rfl (fun c1 => ?_) (fun c1 => ?_)
 ·
  exact no_t c1 (show (A.cmp .neq s3 s3) = false from by subst hA; simp [std])
 ·
  refine gk (gs (gs (gr (ra hA 4 (by cbv) ?_))))
  have hc3 : Real Tryz.prog 209 [.agg [.int .i64 j0, .int .i64 f7, .int .i64 l2, .int .i64 i2, .int .i64 f8, .str i1, .str j8, .str j4], .agg [.int .i64 j0, .int .i64 f7, .int .i64 l2, .int .i64 i2, .int .i64 f8, .str i1, .str j8, .str j4]] (.bool true) := by exact r_laws_eqRec A hA (⟨j0, f7, l2, i2, f8, i1, j8, j4⟩ : GRec) (fun k h => hk k (by simp only [zsItem, List.mem_append]; simp only [h, true_or, or_true]))
  refine ops_callV rfl rfl (by cbv) (by cbv) hc3 (.inr rfl) (by cbv) ?_
  refine ra hA 1 (by cbv) (od ?_)
  refine go_cond rfl (fun c4 => ?_) (fun c4 => ?_)
  ·
   exact no_t c4 (show (A.bnot true) = false from by subst hA; rfl)
  ·
   refine gk (gs (gr (ra hA 1 (by cbv) (od ?_))))
   refine go_ret ⟨_, by cbv, ?_⟩
   show _ = (PV.bool true)
   rfl
def S185_1 (p0 : RR) (p1 : Int) : St := { sl := [.sl 9 p0, .sl 9 p0, .bad, .bad, .bad, .int .i64 p1, .bad, .bad, .bad, .bad, .bad, .bad, .bad, .bad, .bad, .bad, .bad, .bad, .bad, .bad, .bad, .bad, .bad, .bad, .bad, .bad, .bad], bl := [] }
theorem r_laws_eqItemS (A : Alg) (hA : A = std) (xs : List GItem) (hk : ∀ k ∈ zsItemS xs, (k : Int) ≤ 4611686018427387904) : Real Tryz.prog 185 [.sl 9 (List.map eItem xs), .sl 9 (List.map eItem xs)] (.bool true) := by
 obtain ⟨a0, a1⟩ := nm (xs.map eItem)
 have n2 := rlen_map hA a1
 refine real_args (args' := [.sl 9 a0, .sl 9 a0]) (by subst a1; rfl) ?_
 have hlen : (List.length xs : Int) ≤ 4611686018427387904 := hk _ (by simp [zsItemS])
 refine real tyOk Tryz.func185 (by kernel_rfl) (afun_of rfl ?_)
 refine gs (gr (ra hA 1 (by cbv) (od ?_)))
 refine gs (gs (gr (ra hA 5 (by cbv) (od ?_))))
 refine go_cond rfl (fun c1 => ?_) (fun c1 => ?_)
 ·
  exact no_t c1 (show (A.cmp .neq (A.rlen a0) (A.rlen a0)) = false from by subst hA; simp [std])
 ·
  refine gk (gs (gs (gr (ra hA 1 (by cbv) (od ?_)))))
  refine go_block ?_
  refine go_loopE (fun σ m => ∃ (i : Nat) (n5 : Int), σ = (S185_1 a0 n5) ∧ (n5 = (i : Int) ∧ i ≤ List.length xs) ∧ m = List.length xs - i) _ [] [0, 1, 5] [] (S185_1 a0 0) rfl (by cbv) ⟨0, 0, rfl, ?_, rfl⟩ (fun σ m hI => ?_)
  ·
   exact ⟨rfl, Nat.zero_le _⟩
  obtain ⟨i, n5, rfl, ⟨hn5, hi⟩, rfl⟩ := hI
  refine gs (gs (gr (ra hA 4 (by cbv) (od ?_))))
  refine go_cond rfl (fun c2 => ?_) (fun c2 => ?_)
  ·
   have ec2 : n5 < (A.rlen a0) := lss_t hA c2
   refine gk (gs ?_)
   refine go_block ?_
   refine gs ?_
   refine go_draw (by cbv) ?_
   refine rd hA 2 (by cbv) ?_
   have b2 : (0 : Int) ≤ n5 := by
    omega
   have g9 : (Int.toNat n5) < List.length xs := by
    omega
   obtain ⟨x3, hx3⟩ : ∃ x, (xs)[(Int.toNat n5)]? = some x := ⟨_, List.getElem?_eq_getElem g9⟩
   have l5 := List.mem_of_getElem? hx3
   obtain ⟨r0, ⟨k3, j1, l8, k8, j5, k9, k7, k4⟩⟩ := x3
   have b4 : a0[(Int.toNat n5)]? = some [.int .i64 r0, .int .i64 k3, .int .i64 j1, .int .i64 l8, .int .i64 k8, .int .i64 j5, .str k9, .str k7, .str k4] := by
    exact map_at eItem a1 hx3
   have hkx := fun (k : Nat) h => hk k (List.mem_cons_of_mem _ (List.mem_flatMap.2 ⟨_, l5, h⟩))
   refine dops_step rfl rfl rfl (idx_sl rfl rfl rfl rfl rfl b2 rfl b4) ?_
   refine rd hA 3 (by cbv) ?_
   refine dops_step rfl rfl rfl (idx_sl rfl rfl rfl rfl rfl b2 rfl b4) ?_
   refine rd hA 1 (by cbv) ?_
   have hc5 : Real Tryz.prog 195 [.agg [.int .i64 r0, .int .i64 k3, .int .i64 j1, .int .i64 l8, .int .i64 k8, .int .i64 j5, .str k9, .str k7, .str k4], .agg [.int .i64 r0, .int .i64 k3, .int .i64 j1, .int .i64 l8, .int .i64 k8, .int .i64 j5, .str k9, .str k7, .str k4]] (.bool true) := by exact r_laws_eqItem A hA (⟨r0, ⟨k3, j1, l8, k8, j5, k9, k7, k4⟩⟩ : GItem) hkx
   refine dops_callV rfl rfl (by cbv) (by cbv) hc5 (.inr rfl) ?_
   refine rd hA 1 (by cbv) (dd_ ?_)
   refine go_cond rfl (fun c6 => ?_) (fun c6 => ?_)
   ·
    exact no_t c6 (show (A.bnot true) = false from by subst hA; rfl)
   ·
    refine gk (gr (ra hA 3 (by cbv) (od ?_)))
    refine ⟨(S185_1 a0 (A.num .add .i64 n5 1)), List.length xs - (i + 1), ?_, by cbv, i + 1, (A.num .add .i64 n5 1), rfl, ?_, rfl⟩
    ·
     omega
    ·
     exact ⟨by rw [add_i64 hA (by omega) (by omega)]; omega, by omega⟩
  ·
   have ec2 : (A.rlen a0) ≤ n5 := lss_f hA c2
   refine go_exit ⟨fun _ => ?_, fun h => absurd rfl h⟩
   refine gs (gr (ra hA 1 (by cbv) (od ?_)))
   refine go_ret ⟨_, by cbv, ?_⟩
   show _ = (PV.bool true)
   rfl
theorem r_laws_eqSeg (A : Alg) (hA : A = std) (x : GSeg) (hk : ∀ k ∈ zsSeg x, (k : Int) ≤ 4611686018427387904) : Real Tryz.prog 154 [.agg (eSeg x), .agg (eSeg x)] (.bool true) := by
 obtain ⟨t5, s4, s8, t2⟩ := x
 obtain ⟨m6, n3⟩ := nm (t2.map eItem)
 have w3 := rlen_map hA n3
 refine real_args (args' := [.agg [.int .i64 t5, .int .i64 s4, .int .i64 s8, .sl 9 m6], .agg [.int .i64 t5, .int .i64 s4, .int .i64 s8, .sl 9 m6]]) (by subst n3; rfl) ?_
 refine real tyOk Tryz.func154 (by kernel_rfl) (afun_of rfl ?_)
 refine gs (gr (ra hA 3 (by cbv) (od ?_)))
 refine gs (gs (gr (ra hA 5 (by cbv) (od ?_))))
 refine go_cond rfl (fun c1 => ?_) (fun c1 => ?_)
 ·
  exact no_t c1 (show (A.cmp .neq t5 t5) = false from by subst hA; simp [std])
 ·
  refine gk (gs (gs (gr (ra hA 5 (by cbv) (od ?_)))))
  refine go_cond rfl (fun c2 => ?_) (fun c2 => ?_)
  ·
   exact no_t c2 (show (A.cmp .neq s4 s4) = false from by subst hA; simp [std])
  ·
   refine gk (gs (gs (gr (ra hA 5 (by cbv) (od ?_)))))
   refine go_cond rfl (fun c3 => ?_) (fun c3 => ?_)
   ·
    exact no_t c3 (show (A.cmp .neq s8 s8) = false from by subst hA; simp [std])
   ·
    refine gk (gs (gs (gr (ra hA 4 (by cbv) ?_))))
    have hc5 : Real Tryz.prog 185 [.sl 9 m6, .sl 9 m6] (.bool true) := by subst n3; exact r_laws_eqItemS A hA t2 (fun k h => hk k (by simp only [zsSeg, List.mem_append]; simp only [h, true_or, or_true]))
    refine ops_callV rfl rfl (by cbv) (by cbv) hc5 (.inr rfl) (by cbv) ?_
    refine ra hA 1 (by cbv) (od ?_)
    refine go_cond rfl (fun c6 => ?_) (fun c6 => ?_)
    ·
     exact no_t c6 (show (A.bnot true) = false from by subst hA; rfl)
    ·
     refine gk (gs (gr (ra hA 1 (by cbv) (od ?_))))
     refine go_ret ⟨_, by cbv, ?_⟩
     show _ = (PV.bool true)
     rfl
def S113_1 (p0 : RR) (p1 : Int) : St := { sl := [.sl 4 p0, .sl 4 p0, .bad, .bad, .bad, .int .i64 p1, .bad, .bad, .bad, .bad, .bad, .bad, .bad, .bad, .bad, .bad, .bad, .bad, .bad, .bad, .bad, .bad, .bad, .bad, .bad, .bad, .bad], bl := [] }
theorem r_laws_eqSegS (A : Alg) (hA : A = std) (xs : List GSeg) (hk : ∀ k ∈ zsSegS xs, (k : Int) ≤ 4611686018427387904) : Real Tryz.prog 113 [.sl 4 (List.map eSeg xs), .sl 4 (List.map eSeg xs)] (.bool true) := by
 obtain ⟨a0, a1⟩ := nm (xs.map eSeg)
 have n2 := rlen_map hA a1
 refine real_args (args' := [.sl 4 a0, .sl 4 a0]) (by subst a1; rfl) ?_
 have hlen : (List.length xs : Int) ≤ 4611686018427387904 := hk _ (by simp [zsSegS])
 refine real tyOk Tryz.func113 (by kernel_rfl) (afun_of rfl ?_)
 refine gs (gr (ra hA 1 (by cbv) (od ?_)))
 refine gs (gs (gr (ra hA 5 (by cbv) (od ?_))))
 refine go_cond rfl (fun c1 => ?_) (fun c1 => ?_)
 ·
  exact no_t c1 (show (A.cmp .neq (A.rlen a0) (A.rlen a0)) = false from by subst hA; simp [std])
 ·
  refine gk (gs (gs (gr (ra hA 1 (by cbv) (od ?_)))))
  refine go_block ?_
  refine go_loopE (fun σ m => ∃ (i : Nat) (n5 : Int), σ = (S113_1 a0 n5) ∧ (n5 = (i : Int) ∧ i ≤ List.length xs) ∧ m = List.length xs - i) _ [] [0, 1, 5] [] (S113_1 a0 0) rfl (by cbv) ⟨0, 0, rfl, ?_, rfl⟩ (fun σ m hI => ?_)
  ·
   exact ⟨rfl, Nat.zero_le _⟩
  obtain ⟨i, n5, rfl, ⟨hn5, hi⟩, rfl⟩ := hI
  refine gs (gs (gr (ra hA 4 (by cbv) (od ?_))))
  refine go_cond rfl (fun c2 => ?_) (fun c2 => ?_)
  ·
   have ec2 : n5 < (A.rlen a0) := lss_t hA c2
   refine gk (gs ?_)
   refine go_block ?_
   refine gs ?_
   refine go_draw (by cbv) ?_
   refine rd hA 2 (by cbv) ?_
   have b2 : (0 : Int) ≤ n5 := by
    omega
   have g9 : (Int.toNat n5) < List.length xs := by
    omega
   obtain ⟨x3, hx3⟩ : ∃ x, (xs)[(Int.toNat n5)]? = some x := ⟨_, List.getElem?_eq_getElem g9⟩
   have l5 := List.mem_of_getElem? hx3
   obtain ⟨s5, q3, q5, s9⟩ := x3
   obtain ⟨o0, m9⟩ := nm (s9.map eItem)
   have w1 := rlen_map hA m9
   have b4 : a0[(Int.toNat n5)]? = some [.int .i64 s5, .int .i64 q3, .int .i64 q5, .sl 9 o0] := by
    subst m9; exact map_at eSeg a1 hx3
   have hkx := fun (k : Nat) h => hk k (List.mem_cons_of_mem _ (List.mem_flatMap.2 ⟨_, l5, h⟩))
   refine dops_step rfl rfl rfl (idx_sl rfl rfl rfl rfl rfl b2 rfl b4) ?_
   refine rd hA 3 (by cbv) ?_
   refine dops_step rfl rfl rfl (idx_sl rfl rfl rfl rfl rfl b2 rfl b4) ?_
   refine rd hA 1 (by cbv) ?_
   have hc5 : Real Tryz.prog 154 [.agg [.int .i64 s5, .int .i64 q3, .int .i64 q5, .sl 9 o0], .agg [.int .i64 s5, .int .i64 q3, .int .i64 q5, .sl 9 o0]] (.bool true) := by subst m9; exact r_laws_eqSeg A hA (⟨s5, q3, q5, s9⟩ : GSeg) hkx
   refine dops_callV rfl rfl (by cbv) (by cbv) hc5 (.inr rfl) ?_
   refine rd hA 1 (by cbv) (dd_ ?_)
   refine go_cond rfl (fun c6 => ?_) (fun c6 => ?_)
   ·
    exact no_t c6 (show (A.bnot true) = false from by subst hA; rfl)
   ·
    refine gk (gr (ra hA 3 (by cbv) (od ?_)))
    refine ⟨(S113_1 a0 (A.num .add .i64 n5 1)), List.length xs - (i + 1), ?_, by cbv, i + 1, (A.num .add .i64 n5 1), rfl, ?_, rfl⟩
    ·
     omega
    ·
     exact ⟨by rw [add_i64 hA (by omega) (by omega)]; omega, by omega⟩
  ·
   have ec2 : (A.rlen a0) ≤ n5 := lss_f hA c2
   refine go_exit ⟨fun _ => ?_, fun h => absurd rfl h⟩
   refine gs (gr (ra hA 1 (by cbv) (od ?_)))
   refine go_ret ⟨_, by cbv, ?_⟩
   show _ = (PV.bool true)
   rfl
theorem r_laws_eqLog (A : Alg) (hA : A = std) (x : GLog) (hk : ∀ k ∈ zsLog x, (k : Int) ≤ 4611686018427387904) : Real Tryz.prog 66 [.agg (eLog x), .agg (eLog x)] (.bool true) := by
 obtain ⟨⟨n1, p3⟩, r6, u0, m7, m8, p8, k6⟩ := x
 obtain ⟨d0, f3⟩ := nm (n1.map eString)
 have u4 := rlen_map hA f3
 obtain ⟨e7, j6⟩ := nm (p3.map eWrite)
 have v3 := rlen_map hA j6
 obtain ⟨o1, p4⟩ := nm (u0.map eSeg)
 have w6 := rlen_map hA p4
 refine real_args (args' := [.agg [.sl 1 d0, .sl 2 e7, .int .i64 r6, .sl 4 o1, .int .i64 m7, .int .i64 m8, .int .i64 p8, .int .i64 k6], .agg [.sl 1 d0, .sl 2 e7, .int .i64 r6, .sl 4 o1, .int .i64 m7, .int .i64 m8, .int .i64 p8, .int .i64 k6]]) (by subst f3 j6 p4; rfl) ?_
 refine real tyOk Tryz.func66 (by kernel_rfl) (afun_of rfl ?_)
 refine gs (gr (ra hA 3 (by cbv) (od ?_)))
 refine gs (gs (gr (ra hA 4 (by cbv) ?_)))
 have hc2 : Real Tryz.prog 112 [.agg [.sl 1 d0, .sl 2 e7], .agg [.sl 1 d0, .sl 2 e7]] (.bool true) := by subst f3 j6; exact r_laws_eqDisk A hA (⟨n1, p3⟩ : GDisk) (fun k h => hk k (by simp only [zsLog, List.mem_append]; simp only [h, true_or, or_true]))
 refine ops_callV rfl rfl (by cbv) (by cbv) hc2 (.inr rfl) (by cbv) ?_
 refine ra hA 1 (by cbv) (od ?_)
 refine go_cond rfl (fun c3 => ?_) (fun c3 => ?_)
 ·
  exact no_t c3 (show (A.bnot true) = false from by subst hA; rfl)
 ·
  refine gk (gs (gs (gr (ra hA 5 (by cbv) (od ?_)))))
  refine go_cond rfl (fun c4 => ?_) (fun c4 => ?_)
  ·
   exact no_t c4 (show (A.cmp .neq r6 r6) = false from by subst hA; simp [std])
  ·
   refine gk (gs (gs (gr (ra hA 4 (by cbv) ?_))))
   have hc6 : Real Tryz.prog 113 [.sl 4 o1, .sl 4 o1] (.bool true) := by subst p4; exact r_laws_eqSegS A hA u0 (fun k h => hk k (by simp only [zsLog, List.mem_append]; simp only [h, true_or, or_true]))
   refine ops_callV rfl rfl (by cbv) (by cbv) hc6 (.inr rfl) (by cbv) ?_
   refine ra hA 1 (by cbv) (od ?_)
   refine go_cond rfl (fun c7 => ?_) (fun c7 => ?_)
   ·
    exact no_t c7 (show (A.bnot true) = false from by subst hA; rfl)
   ·
    refine gk (gs (gs (gr (ra hA 5 (by cbv) (od ?_)))))
    refine go_cond rfl (fun c8 => ?_) (fun c8 => ?_)
    ·
     exact no_t c8 (show (A.cmp .neq m7 m7) = false from by subst hA; simp [std])
    ·
     refine gk (gs (gs (gr (ra hA 5 (by cbv) (od ?_)))))
     refine go_cond rfl (fun c9 => ?_) (fun c9 => ?_)
     ·
      exact no_t c9 (show (A.cmp .neq m8 m8) = false from by subst hA; simp [std])
     ·
      refine gk (gs (gs (gr (ra hA 5 (by cbv) (od ?_)))))
      refine go_cond rfl (fun c10 => ?_) (fun c10 => ?_)
      ·
       exact no_t c10 (show (A.cmp .neq p8 p8) = false from by subst hA; simp [std])
      ·
       refine gk (gs (gs (gr (ra hA 5 (by cbv) (od ?_)))))
       refine go_cond rfl (fun c11 => ?_) (fun c11 => ?_)
       ·
        exact no_t c11 (show (A.cmp .neq k6 k6) = false from by subst hA; simp [std])
       ·
        refine gk (gs (gr (ra hA 1 (by cbv) (od ?_))))
        refine go_ret ⟨_, by cbv, ?_⟩
        show _ = (PV.bool true)
        rfl
def S67_1 (p0 : RR) (p1 : Int) : St := { sl := [.sl 1 p0, .sl 1 p0, .bad, .bad, .bad, .int .i64 p1, .bad, .bad, .bad, .bad, .bad, .bad, .bad, .bad, .bad, .bad, .bad, .bad, .bad, .bad, .bad, .bad, .bad, .bad, .bad, .bad], bl := [] }
theorem r_laws_eqIntS (A : Alg) (hA : A = std) (xs : List Int) (hk : ∀ k ∈ zsIntS xs, (k : Int) ≤ 4611686018427387904) : Real Tryz.prog 67 [.sl 1 (List.map eInt xs), .sl 1 (List.map eInt xs)] (.bool true) := by
 obtain ⟨a0, a1⟩ := nm (xs.map eInt)
 have n2 := rlen_map hA a1
 refine real_args (args' := [.sl 1 a0, .sl 1 a0]) (by subst a1; rfl) ?_
 have hlen : (List.length xs : Int) ≤ 4611686018427387904 := hk _ (by simp [zsIntS])
 refine real tyOk Tryz.func67 (by kernel_rfl) (afun_of rfl ?_)
 refine gs (gr (ra hA 1 (by cbv) (od ?_)))
 refine gs (gs (gr (ra hA 5 (by cbv) (od ?_))))
 refine go_cond rfl (fun c1 => ?_) (fun c1 => ?_)
 ·
  exact no_t c1 (show (A.cmp .neq (A.rlen a0) (A.rlen a0)) = false from by subst hA; simp [std])
 ·
  refine gk (gs (gs (gr (ra hA 1 (by cbv) (od ?_)))))
  refine go_block ?_
  refine go_loopE (fun σ m => ∃ (i : Nat) (n5 : Int), σ = (S67_1 a0 n5) ∧ (n5 = (i : Int) ∧ i ≤ List.length xs) ∧ m = List.length xs - i) _ [] [0, 1, 5] [] (S67_1 a0 0) rfl (by cbv) ⟨0, 0, rfl, ?_, rfl⟩ (fun σ m hI => ?_)
  ·
   exact ⟨rfl, Nat.zero_le _⟩
  obtain ⟨i, n5, rfl, ⟨hn5, hi⟩, rfl⟩ := hI
  refine gs (gs (gr (ra hA 4 (by cbv) (od ?_))))
  refine go_cond rfl (fun c2 => ?_) (fun c2 => ?_)
  ·
   have ec2 : n5 < (A.rlen a0) := lss_t hA c2
   refine gk (gs ?_)
   refine go_block ?_
   refine gs ?_
   refine go_draw (by cbv) ?_
   refine rd hA 2 (by cbv) ?_
   have b2 : (0 : Int) ≤ n5 := by
    omega
   have g9 : (Int.toNat n5) < List.length xs := by
    omega
   obtain ⟨x3, hx3⟩ : ∃ x, (xs)[(Int.toNat n5)]? = some x := ⟨_, List.getElem?_eq_getElem g9⟩
   have l5 := List.mem_of_getElem? hx3
   have b4 : a0[(Int.toNat n5)]? = some [.int .i64 x3] := by
    exact map_at eInt a1 hx3
   refine dops_step rfl rfl rfl (idx_sl rfl rfl rfl rfl rfl b2 rfl b4) ?_
   refine rd hA 3 (by cbv) ?_
   refine dops_step rfl rfl rfl (idx_sl rfl rfl rfl rfl rfl b2 rfl b4) ?_
   refine rd hA 2 (by cbv) (dd_ ?_)
   refine go_cond rfl (fun c4 => ?_) (fun c4 => ?_)
   ·
    exact no_t c4 (show (A.cmp .neq x3 x3) = false from by subst hA; simp [std])
   ·
    refine gk (gr (ra hA 3 (by cbv) (od ?_)))
    refine ⟨(S67_1 a0 (A.num .add .i64 n5 1)), List.length xs - (i + 1), ?_, by cbv, i + 1, (A.num .add .i64 n5 1), rfl, ?_, rfl⟩
    ·
     omega
    ·
     exact ⟨by rw [add_i64 hA (by omega) (by omega)]; omega, by omega⟩
  ·
   have ec2 : (A.rlen a0) ≤ n5 := lss_f hA c2
   refine go_exit ⟨fun _ => ?_, fun h => absurd rfl h⟩
   refine gs (gr (ra hA 1 (by cbv) (od ?_)))
   refine go_ret ⟨_, by cbv, ?_⟩
   show _ = (PV.bool true)
   rfl
theorem r_laws_eqStore (A : Alg) (hA : A = std) (x : GStore) (hk : ∀ k ∈ zsStore x, (k : Int) ≤ 4611686018427387904) : Real Tryz.prog 34 [.agg (eStore x), .agg (eStore x)] (.bool true) := by
 obtain ⟨⟨⟨l1, m2⟩, i0, q6, d2, d4, f5, b7⟩, t3⟩ := x
 obtain ⟨b1, c0⟩ := nm (l1.map eString)
 have t1 := rlen_map hA c0
 obtain ⟨b6, d6⟩ := nm (m2.map eWrite)
 have t8 := rlen_map hA d6
 obtain ⟨i3, l4⟩ := nm (q6.map eSeg)
 have v7 := rlen_map hA l4
 obtain ⟨m4, n9⟩ := nm (t3.map eInt)
 have w2 := rlen_map hA n9
 refine real_args (args' := [.agg [.sl 1 b1, .sl 2 b6, .int .i64 i0, .sl 4 i3, .int .i64 d2, .int .i64 d4, .int .i64 f5, .int .i64 b7, .sl 1 m4], .agg [.sl 1 b1, .sl 2 b6, .int .i64 i0, .sl 4 i3, .int .i64 d2, .int .i64 d4, .int .i64 f5, .int .i64 b7, .sl 1 m4]]) (by subst c0 d6 l4 n9; rfl) ?_
 refine real tyOk Tryz.func34 (by kernel_rfl) (afun_of rfl ?_)
 refine gs (gr (ra hA 3 (by cbv) (od ?_)))
 refine gs (gs (gr (ra hA 4 (by cbv) ?_)))
 have hc2 : Real Tryz.prog 66 [.agg [.sl 1 b1, .sl 2 b6, .int .i64 i0, .sl 4 i3, .int .i64 d2, .int .i64 d4, .int .i64 f5, .int .i64 b7], .agg [.sl 1 b1, .sl 2 b6, .int .i64 i0, .sl 4 i3, .int .i64 d2, .int .i64 d4, .int .i64 f5, .int .i64 b7]] (.bool true) := by subst c0 d6 l4; exact r_laws_eqLog A hA (⟨⟨l1, m2⟩, i0, q6, d2, d4, f5, b7⟩ : GLog) (fun k h => hk k (by simp only [zsStore, List.mem_append]; simp only [h, true_or, or_true]))
 refine ops_callV rfl rfl (by cbv) (by cbv) hc2 (.inr rfl) (by cbv) ?_
 refine ra hA 1 (by cbv) (od ?_)
 refine go_cond rfl (fun c3 => ?_) (fun c3 => ?_)
 ·
  exact no_t c3 (show (A.bnot true) = false from by subst hA; rfl)
 ·
  refine gk (gs (gs (gr (ra hA 4 (by cbv) ?_))))
  have hc5 : Real Tryz.prog 67 [.sl 1 m4, .sl 1 m4] (.bool true) := by subst n9; exact r_laws_eqIntS A hA t3 (fun k h => hk k (by simp only [zsStore, List.mem_append]; simp only [h, true_or, or_true]))
  refine ops_callV rfl rfl (by cbv) (by cbv) hc5 (.inr rfl) (by cbv) ?_
  refine ra hA 1 (by cbv) (od ?_)
  refine go_cond rfl (fun c6 => ?_) (fun c6 => ?_)
  ·
   exact no_t c6 (show (A.bnot true) = false from by subst hA; rfl)
  ·
   refine gk (gs (gr (ra hA 1 (by cbv) (od ?_))))
   refine go_ret ⟨_, by cbv, ?_⟩
   show _ = (PV.bool true)
   rfl
theorem r_laws_eqBring (A : Alg) (hA : A = std) (x : GBring) (hk : ∀ k ∈ zsBring x, (k : Int) ≤ 4611686018427387904) : Real Tryz.prog 114 [.agg (eBring x), .agg (eBring x)] (.bool true) := by
 obtain ⟨a8, r2, v9, u1⟩ := x
 obtain ⟨r3, r7⟩ := nm (v9.map eString)
 have x1 := rlen_map hA r7
 obtain ⟨o3, p5⟩ := nm (u1.map eString)
 have w7 := rlen_map hA p5
 refine real_args (args' := [.agg [.int .i64 a8, .str r2, .sl 1 r3, .sl 1 o3], .agg [.int .i64 a8, .str r2, .sl 1 r3, .sl 1 o3]]) (by subst r7 p5; rfl) ?_
 refine real tyOk Tryz.func114 (by kernel_rfl) (afun_of rfl ?_)
 refine gs (gr (ra hA 3 (by cbv) (od ?_)))
 refine gs (gs (gr (ra hA 5 (by cbv) (od ?_))))
 refine go_cond rfl (fun c1 => ?_) (fun c1 => ?_)
 ·
  exact no_t c1 (show (A.cmp .neq a8 a8) = false from by subst hA; simp [std])
 ·
  refine gk (gs (gs (gr (ra hA 5 (by cbv) (od ?_)))))
  refine go_cond rfl (fun c2 => ?_) (fun c2 => ?_)
  ·
   exact no_t c2 (show (A.scmp .neq r2 r2) = false from by subst hA; simp [std])
  ·
   refine gk (gs (gs (gr (ra hA 4 (by cbv) ?_))))
   have hc4 : Real Tryz.prog 152 [.sl 1 r3, .sl 1 r3] (.bool true) := by subst r7; exact r_laws_eqStringS A hA v9 (fun k h => hk k (by simp only [zsBring, List.mem_append]; simp only [h, true_or, or_true]))
   refine ops_callV rfl rfl (by cbv) (by cbv) hc4 (.inr rfl) (by cbv) ?_
   refine ra hA 1 (by cbv) (od ?_)
   refine go_cond rfl (fun c5 => ?_) (fun c5 => ?_)
   ·
    exact no_t c5 (show (A.bnot true) = false from by subst hA; rfl)
   ·
    refine gk (gs (gs (gr (ra hA 4 (by cbv) ?_))))
    have hc7 : Real Tryz.prog 152 [.sl 1 o3, .sl 1 o3] (.bool true) := by subst p5; exact r_laws_eqStringS A hA u1 (fun k h => hk k (by simp only [zsBring, List.mem_append]; simp only [h, true_or, or_true]))
    refine ops_callV rfl rfl (by cbv) (by cbv) hc7 (.inr rfl) (by cbv) ?_
    refine ra hA 1 (by cbv) (od ?_)
    refine go_cond rfl (fun c8 => ?_) (fun c8 => ?_)
    ·
     exact no_t c8 (show (A.bnot true) = false from by subst hA; rfl)
    ·
     refine gk (gs (gr (ra hA 1 (by cbv) (od ?_))))
     refine go_ret ⟨_, by cbv, ?_⟩
     show _ = (PV.bool true)
     rfl
theorem r_laws_eqMail (A : Alg) (hA : A = std) (x : GMail) (hk : ∀ k ∈ zsMail x, (k : Int) ≤ 4611686018427387904) : Real Tryz.prog 186 [.agg (eMail x), .agg (eMail x)] (.bool true) := by
 obtain ⟨l9, e9, b5⟩ := x
 refine real_args (args' := [.agg [.int .i64 l9, .int .i64 e9, .str b5], .agg [.int .i64 l9, .int .i64 e9, .str b5]]) (by rfl) ?_
 refine real tyOk Tryz.func186 (by kernel_rfl) (afun_of rfl ?_)
 refine gs (gr (ra hA 3 (by cbv) (od ?_)))
 refine gs (gs (gr (ra hA 5 (by cbv) (od ?_))))
 refine go_cond rfl (fun c1 => ?_) (fun c1 => ?_)
 ·
  exact no_t c1 (show (A.cmp .neq l9 l9) = false from by subst hA; simp [std])
 ·
  refine gk (gs (gs (gr (ra hA 5 (by cbv) (od ?_)))))
  refine go_cond rfl (fun c2 => ?_) (fun c2 => ?_)
  ·
   exact no_t c2 (show (A.cmp .neq e9 e9) = false from by subst hA; simp [std])
  ·
   refine gk (gs (gs (gr (ra hA 5 (by cbv) (od ?_)))))
   refine go_cond rfl (fun c3 => ?_) (fun c3 => ?_)
   ·
    exact no_t c3 (show (A.scmp .neq b5 b5) = false from by subst hA; simp [std])
   ·
    refine gk (gs (gr (ra hA 1 (by cbv) (od ?_))))
    refine go_ret ⟨_, by cbv, ?_⟩
    show _ = (PV.bool true)
    rfl
def S155_1 (p0 : RR) (p1 : Int) : St := { sl := [.sl 3 p0, .sl 3 p0, .bad, .bad, .bad, .int .i64 p1, .bad, .bad, .bad, .bad, .bad, .bad, .bad, .bad, .bad, .bad, .bad, .bad, .bad, .bad, .bad, .bad, .bad, .bad, .bad, .bad, .bad], bl := [] }
theorem r_laws_eqMailS (A : Alg) (hA : A = std) (xs : List GMail) (hk : ∀ k ∈ zsMailS xs, (k : Int) ≤ 4611686018427387904) : Real Tryz.prog 155 [.sl 3 (List.map eMail xs), .sl 3 (List.map eMail xs)] (.bool true) := by
 obtain ⟨a0, a1⟩ := nm (xs.map eMail)
 have n2 := rlen_map hA a1
 refine real_args (args' := [.sl 3 a0, .sl 3 a0]) (by subst a1; rfl) ?_
 have hlen : (List.length xs : Int) ≤ 4611686018427387904 := hk _ (by simp [zsMailS])
 refine real tyOk Tryz.func155 (by kernel_rfl) (afun_of rfl ?_)
 refine gs (gr (ra hA 1 (by cbv) (od ?_)))
 refine gs (gs (gr (ra hA 5 (by cbv) (od ?_))))
 refine go_cond rfl (fun c1 => ?_) (fun c1 => ?_)
 ·
  exact no_t c1 (show (A.cmp .neq (A.rlen a0) (A.rlen a0)) = false from by subst hA; simp [std])
 ·
  refine gk (gs (gs (gr (ra hA 1 (by cbv) (od ?_)))))
  refine go_block ?_
  refine go_loopE (fun σ m => ∃ (i : Nat) (n5 : Int), σ = (S155_1 a0 n5) ∧ (n5 = (i : Int) ∧ i ≤ List.length xs) ∧ m = List.length xs - i) _ [] [0, 1, 5] [] (S155_1 a0 0) rfl (by cbv) ⟨0, 0, rfl, ?_, rfl⟩ (fun σ m hI => ?_)
  ·
   exact ⟨rfl, Nat.zero_le _⟩
  obtain ⟨i, n5, rfl, ⟨hn5, hi⟩, rfl⟩ := hI
  refine gs (gs (gr (ra hA 4 (by cbv) (od ?_))))
  refine go_cond rfl (fun c2 => ?_) (fun c2 => ?_)
  ·
   have ec2 : n5 < (A.rlen a0) := lss_t hA c2
   refine gk (gs ?_)
   refine go_block ?_
   refine gs ?_
   refine go_draw (by cbv) ?_
   refine rd hA 2 (by cbv) ?_
   have b2 : (0 : Int) ≤ n5 := by
    omega
   have g9 : (Int.toNat n5) < List.length xs := by
    omega
   obtain ⟨x3, hx3⟩ : ∃ x, (xs)[(Int.toNat n5)]? = some x := ⟨_, List.getElem?_eq_getElem g9⟩
   have l5 := List.mem_of_getElem? hx3
   obtain ⟨q8, o2, e5⟩ := x3
   have b4 : a0[(Int.toNat n5)]? = some [.int .i64 q8, .int .i64 o2, .str e5] := by
    exact map_at eMail a1 hx3
   have hkx := fun (k : Nat) h => hk k (List.mem_cons_of_mem _ (List.mem_flatMap.2 ⟨_, l5, h⟩))
   refine dops_step rfl rfl rfl (idx_sl rfl rfl rfl rfl rfl b2 rfl b4) ?_
   refine rd hA 3 (by cbv) ?_
   refine dops_step rfl rfl rfl (idx_sl rfl rfl rfl rfl rfl b2 rfl b4) ?_
   refine rd hA 1 (by cbv) ?_
   have hc5 : Real Tryz.prog 186 [.agg [.int .i64 q8, .int .i64 o2, .str e5], .agg [.int .i64 q8, .int .i64 o2, .str e5]] (.bool true) := by exact r_laws_eqMail A hA (⟨q8, o2, e5⟩ : GMail) hkx
   refine dops_callV rfl rfl (by cbv) (by cbv) hc5 (.inr rfl) ?_
   refine rd hA 1 (by cbv) (dd_ ?_)
   refine go_cond rfl (fun c6 => ?_) (fun c6 => ?_)
   ·
    exact no_t c6 (show (A.bnot true) = false from by subst hA; rfl)
   ·
    refine gk (gr (ra hA 3 (by cbv) (od ?_)))
    refine ⟨(S155_1 a0 (A.num .add .i64 n5 1)), List.length xs - (i + 1), ?_, by cbv, i + 1, (A.num .add .i64 n5 1), rfl, ?_, rfl⟩
    ·
     omega
    ·
     exact ⟨by rw [add_i64 hA (by omega) (by omega)]; omega, by omega⟩
  ·
   have ec2 : (A.rlen a0) ≤ n5 := lss_f hA c2
   refine go_exit ⟨fun _ => ?_, fun h => absurd rfl h⟩
   refine gs (gr (ra hA 1 (by cbv) (od ?_)))
   refine go_ret ⟨_, by cbv, ?_⟩
   show _ = (PV.bool true)
   rfl
def S156_1 (p0 : RR) (p1 : Int) : St := { sl := [.sl 1 p0, .sl 1 p0, .bad, .bad, .bad, .int .i64 p1, .bad, .bad, .bad, .bad, .bad, .bad, .bad, .bad, .bad, .bad, .bad, .bad, .bad, .bad, .bad, .bad, .bad, .bad, .bad, .bad], bl := [] }
theorem r_laws_eqBoolS (A : Alg) (hA : A = std) (xs : List Bool) (hk : ∀ k ∈ zsBoolS xs, (k : Int) ≤ 4611686018427387904) : Real Tryz.prog 156 [.sl 1 (List.map eBool xs), .sl 1 (List.map eBool xs)] (.bool true) := by
 obtain ⟨a0, a1⟩ := nm (xs.map eBool)
 have n2 := rlen_map hA a1
 refine real_args (args' := [.sl 1 a0, .sl 1 a0]) (by subst a1; rfl) ?_
 have hlen : (List.length xs : Int) ≤ 4611686018427387904 := hk _ (by simp [zsBoolS])
 refine real tyOk Tryz.func156 (by kernel_rfl) (afun_of rfl ?_)
 refine gs (gr (ra hA 1 (by cbv) (od ?_)))
 refine gs (gs (gr (ra hA 5 (by cbv) (od ?_))))
 refine go_cond rfl (fun c1 => ?_) (fun c1 => ?_)
 ·
  exact no_t c1 (show (A.cmp .neq (A.rlen a0) (A.rlen a0)) = false from by subst hA; simp [std])
 ·
  refine gk (gs (gs (gr (ra hA 1 (by cbv) (od ?_)))))
  refine go_block ?_
  refine go_loopE (fun σ m => ∃ (i : Nat) (n5 : Int), σ = (S156_1 a0 n5) ∧ (n5 = (i : Int) ∧ i ≤ List.length xs) ∧ m = List.length xs - i) _ [] [0, 1, 5] [] (S156_1 a0 0) rfl (by cbv) ⟨0, 0, rfl, ?_, rfl⟩ (fun σ m hI => ?_)
  ·
   exact ⟨rfl, Nat.zero_le _⟩
  obtain ⟨i, n5, rfl, ⟨hn5, hi⟩, rfl⟩ := hI
  refine gs (gs (gr (ra hA 4 (by cbv) (od ?_))))
  refine go_cond rfl (fun c2 => ?_) (fun c2 => ?_)
  ·
   have ec2 : n5 < (A.rlen a0) := lss_t hA c2
   refine gk (gs ?_)
   refine go_block ?_
   refine gs ?_
   refine go_draw (by cbv) ?_
   refine rd hA 2 (by cbv) ?_
   have b2 : (0 : Int) ≤ n5 := by
    omega
   have g9 : (Int.toNat n5) < List.length xs := by
    omega
   obtain ⟨x3, hx3⟩ : ∃ x, (xs)[(Int.toNat n5)]? = some x := ⟨_, List.getElem?_eq_getElem g9⟩
   have l5 := List.mem_of_getElem? hx3
   have b4 : a0[(Int.toNat n5)]? = some [.bool x3] := by
    exact map_at eBool a1 hx3
   refine dops_step rfl rfl rfl (idx_sl rfl rfl rfl rfl rfl b2 rfl b4) ?_
   refine rd hA 3 (by cbv) ?_
   refine dops_step rfl rfl rfl (idx_sl rfl rfl rfl rfl rfl b2 rfl b4) ?_
   refine rd hA 2 (by cbv) (dd_ ?_)
   refine go_cond rfl (fun c4 => ?_) (fun c4 => ?_)
   ·
    exact no_t c4 (show (A.bnot (A.beq x3 x3)) = false from by subst hA; simp [std])
   ·
    refine gk (gr (ra hA 3 (by cbv) (od ?_)))
    refine ⟨(S156_1 a0 (A.num .add .i64 n5 1)), List.length xs - (i + 1), ?_, by cbv, i + 1, (A.num .add .i64 n5 1), rfl, ?_, rfl⟩
    ·
     omega
    ·
     exact ⟨by rw [add_i64 hA (by omega) (by omega)]; omega, by omega⟩
  ·
   have ec2 : (A.rlen a0) ≤ n5 := lss_f hA c2
   refine go_exit ⟨fun _ => ?_, fun h => absurd rfl h⟩
   refine gs (gr (ra hA 1 (by cbv) (od ?_)))
   refine go_ret ⟨_, by cbv, ?_⟩
   show _ = (PV.bool true)
   rfl
theorem r_laws_eqFetch (A : Alg) (hA : A = std) (x : GFetch) (hk : ∀ k ∈ zsFetch x, (k : Int) ≤ 4611686018427387904) : Real Tryz.prog 115 [.agg (eFetch x), .agg (eFetch x)] (.bool true) := by
 obtain ⟨a8, b8, t0, u3⟩ := x
 obtain ⟨m3, n6⟩ := nm (t0.map eMail)
 have w5 := rlen_map hA n6
 obtain ⟨n7, p7⟩ := nm (u3.map eBool)
 have w8 := rlen_map hA p7
 refine real_args (args' := [.agg [.int .i64 a8, .str b8, .sl 3 m3, .sl 1 n7], .agg [.int .i64 a8, .str b8, .sl 3 m3, .sl 1 n7]]) (by subst n6 p7; rfl) ?_
 refine real tyOk Tryz.func115 (by kernel_rfl) (afun_of rfl ?_)
 refine gs (gr (ra hA 3 (by cbv) (od ?_)))
 refine gs (gs (gr (ra hA 5 (by cbv) (od ?_))))
 refine go_cond rfl (fun c1 => ?_) (fun c1 => ?_)
 ·
  exact no_t c1 (show (A.cmp .neq a8 a8) = false from by subst hA; simp [std])
 ·
  refine gk (gs (gs (gr (ra hA 5 (by cbv) (od ?_)))))
  refine go_cond rfl (fun c2 => ?_) (fun c2 => ?_)
  ·
   exact no_t c2 (show (A.scmp .neq b8 b8) = false from by subst hA; simp [std])
  ·
   refine gk (gs (gs (gr (ra hA 4 (by cbv) ?_))))
   have hc4 : Real Tryz.prog 155 [.sl 3 m3, .sl 3 m3] (.bool true) := by subst n6; exact r_laws_eqMailS A hA t0 (fun k h => hk k (by simp only [zsFetch, List.mem_append]; simp only [h, true_or, or_true]))
   refine ops_callV rfl rfl (by cbv) (by cbv) hc4 (.inr rfl) (by cbv) ?_
   refine ra hA 1 (by cbv) (od ?_)
   refine go_cond rfl (fun c5 => ?_) (fun c5 => ?_)
   ·
    exact no_t c5 (show (A.bnot true) = false from by subst hA; rfl)
   ·
    refine gk (gs (gs (gr (ra hA 4 (by cbv) ?_))))
    have hc7 : Real Tryz.prog 156 [.sl 1 n7, .sl 1 n7] (.bool true) := by subst p7; exact r_laws_eqBoolS A hA u3 (fun k h => hk k (by simp only [zsFetch, List.mem_append]; simp only [h, true_or, or_true]))
    refine ops_callV rfl rfl (by cbv) (by cbv) hc7 (.inr rfl) (by cbv) ?_
    refine ra hA 1 (by cbv) (od ?_)
    refine go_cond rfl (fun c8 => ?_) (fun c8 => ?_)
    ·
     exact no_t c8 (show (A.bnot true) = false from by subst hA; rfl)
    ·
     refine gk (gs (gr (ra hA 1 (by cbv) (od ?_))))
     refine go_ret ⟨_, by cbv, ?_⟩
     show _ = (PV.bool true)
     rfl
theorem r_laws_eqLook (A : Alg) (hA : A = std) (x : GLook) (hk : ∀ k ∈ zsLook x, (k : Int) ≤ 4611686018427387904) : Real Tryz.prog 116 [.agg (eLook x), .agg (eLook x)] (.bool true) := by
 obtain ⟨a8, b8, s7, f0, u2⟩ := x
 obtain ⟨n8, o8⟩ := nm (u2.map eInt)
 have w9 := rlen_map hA o8
 refine real_args (args' := [.agg [.int .i64 a8, .str b8, .str s7, .int .i64 f0, .sl 1 n8], .agg [.int .i64 a8, .str b8, .str s7, .int .i64 f0, .sl 1 n8]]) (by subst o8; rfl) ?_
 refine real tyOk Tryz.func116 (by kernel_rfl) (afun_of rfl ?_)
 refine gs (gr (ra hA 3 (by cbv) (od ?_)))
 refine gs (gs (gr (ra hA 5 (by cbv) (od ?_))))
 refine go_cond rfl (fun c1 => ?_) (fun c1 => ?_)
 ·
  exact no_t c1 (show (A.cmp .neq a8 a8) = false from by subst hA; simp [std])
 ·
  refine gk (gs (gs (gr (ra hA 5 (by cbv) (od ?_)))))
  refine go_cond rfl (fun c2 => ?_) (fun c2 => ?_)
  ·
   exact no_t c2 (show (A.scmp .neq b8 b8) = false from by subst hA; simp [std])
  ·
   refine gk (gs (gs (gr (ra hA 5 (by cbv) (od ?_)))))
   refine go_cond rfl (fun c3 => ?_) (fun c3 => ?_)
   ·
    exact no_t c3 (show (A.scmp .neq s7 s7) = false from by subst hA; simp [std])
   ·
    refine gk (gs (gs (gr (ra hA 5 (by cbv) (od ?_)))))
    refine go_cond rfl (fun c4 => ?_) (fun c4 => ?_)
    ·
     exact no_t c4 (show (A.cmp .neq f0 f0) = false from by subst hA; simp [std])
    ·
     refine gk (gs (gs (gr (ra hA 4 (by cbv) ?_))))
     have hc6 : Real Tryz.prog 67 [.sl 1 n8, .sl 1 n8] (.bool true) := by subst o8; exact r_laws_eqIntS A hA u2 (fun k h => hk k (by simp only [zsLook, List.mem_append]; simp only [h, true_or, or_true]))
     refine ops_callV rfl rfl (by cbv) (by cbv) hc6 (.inr rfl) (by cbv) ?_
     refine ra hA 1 (by cbv) (od ?_)
     refine go_cond rfl (fun c7 => ?_) (fun c7 => ?_)
     ·
      exact no_t c7 (show (A.bnot true) = false from by subst hA; rfl)
     ·
      refine gk (gs (gr (ra hA 1 (by cbv) (od ?_))))
      refine go_ret ⟨_, by cbv, ?_⟩
      show _ = (PV.bool true)
      rfl
theorem r_laws_eqSession (A : Alg) (hA : A = std) (x : GSession) (hk : ∀ k ∈ zsSession x, (k : Int) ≤ 4611686018427387904) : Real Tryz.prog 68 [.agg (eSession x), .agg (eSession x)] (.bool true) := by
 obtain ⟨j7, t6, s1, r5, ⟨d3, e0, q9, p2⟩, ⟨d1, d9, o5, o9⟩, ⟨e1, f6, j2, e3, q1⟩⟩ := x
 obtain ⟨i4, l6⟩ := nm (q9.map eString)
 have v6 := rlen_map hA l6
 obtain ⟨f1, i9⟩ := nm (p2.map eString)
 have v2 := rlen_map hA i9
 obtain ⟨d8, g7⟩ := nm (o5.map eMail)
 have u8 := rlen_map hA g7
 obtain ⟨e8, i6⟩ := nm (o9.map eBool)
 have v0 := rlen_map hA i6
 obtain ⟨g2, k0⟩ := nm (q1.map eInt)
 have v4 := rlen_map hA k0
 refine real_args (args' := [.agg [.int .i64 j7, .str t6, .str s1, .bool r5, .int .i64 d3, .str e0, .sl 1 i4, .sl 1 f1, .int .i64 d1, .str d9, .sl 3 d8, .sl 1 e8, .int .i64 e1, .str f6, .str j2, .int .i64 e3, .sl 1 g2], .agg [.int .i64 j7, .str t6, .str s1, .bool r5, .int .i64 d3, .str e0, .sl 1 i4, .sl 1 f1, .int .i64 d1, .str d9, .sl 3 d8, .sl 1 e8, .int .i64 e1, .str f6, .str j2, .int .i64 e3, .sl 1 g2]]) (by subst l6 i9 g7 i6 k0; rfl) ?_
 refine real tyOk Tryz.func68 (by kernel_rfl) (afun_of rfl ?_)
 refine gs (gr (ra hA 3 (by cbv) (od ?_)))
 refine gs (gs (gr (ra hA 5 (by cbv) (od ?_))))
 refine go_cond rfl (fun c1 => ?_) (fun c1 => ?_)
 ·
  exact no_t c1 (show (A.cmp .neq j7 j7) = false from by subst hA; simp [std])
 ·
  refine gk (gs (gs (gr (ra hA 5 (by cbv) (od ?_)))))
  refine go_cond rfl (fun c2 => ?_) (fun c2 => ?_)
  ·
   exact no_t c2 (show (A.scmp .neq t6 t6) = false from by subst hA; simp [std])
  ·
   refine gk (gs (gs (gr (ra hA 5 (by cbv) (od ?_)))))
   refine go_cond rfl (fun c3 => ?_) (fun c3 => ?_)
   ·
    exact no_t c3 (show (A.scmp .neq s1 s1) = false from by subst hA; simp [std])
   ·
    refine gk (gs (gs (gr (ra hA 5 (by cbv) (od ?_)))))
    refine go_cond rfl (fun c4 => ?_) (fun c4 => ?_)
    ·
     exact no_t c4 (show (A.bnot (A.beq r5 r5)) = false from by subst hA; simp [std])
    ·
     refine gk (gs (gs (gr (ra hA 4 (by cbv) ?_))))
     have hc6 : Real Tryz.prog 114 [.agg [.int .i64 d3, .str e0, .sl 1 i4, .sl 1 f1], .agg [.int .i64 d3, .str e0, .sl 1 i4, .sl 1 f1]] (.bool true) := by subst l6 i9; exact r_laws_eqBring A hA (⟨d3, e0, q9, p2⟩ : GBring) (fun k h => hk k (by simp only [zsSession, List.mem_append]; simp only [h, true_or, or_true]))
     refine ops_callV rfl rfl (by cbv) (by cbv) hc6 (.inr rfl) (by cbv) ?_
     refine ra hA 1 (by cbv) (od ?_)
     refine go_cond rfl (fun c7 => ?_) (fun c7 => ?_)
     ·
      exact no_t c7 (show (A.bnot true) = false from by subst hA; rfl)
     ·
      refine gk (gs (gs (gr (ra hA 4 (by cbv) ?_))))
      have hc9 : Real Tryz.prog 115 [.agg [.int .i64 d1, .str d9, .sl 3 d8, .sl 1 e8], .agg [.int .i64 d1, .str d9, .sl 3 d8, .sl 1 e8]] (.bool true) := by subst g7 i6; exact r_laws_eqFetch A hA (⟨d1, d9, o5, o9⟩ : GFetch) (fun k h => hk k (by simp only [zsSession, List.mem_append]; simp only [h, true_or, or_true]))
      refine ops_callV rfl rfl (by cbv) (by cbv) hc9 (.inr rfl) (by cbv) ?_
      refine ra hA 1 (by cbv) (od ?_)
      refine go_cond rfl (fun c10 => ?_) (fun c10 => ?_)
      ·
       exact no_t c10 (show (A.bnot true) = false from by subst hA; rfl)
      ·
       refine gk (gs (gs (gr (ra hA 4 (by cbv) ?_))))
       have x0 : Real Tryz.prog 116 [.agg [.int .i64 e1, .str f6, .str j2, .int .i64 e3, .sl 1 g2], .agg [.int .i64 e1, .str f6, .str j2, .int .i64 e3, .sl 1 g2]] (.bool true) := by subst k0; exact r_laws_eqLook A hA (⟨e1, f6, j2, e3, q1⟩ : GLook) (fun k h => hk k (by simp only [zsSession, List.mem_append]; simp only [h, true_or, or_true]))
       refine ops_callV rfl rfl (by cbv) (by cbv) x0 (.inr rfl) (by cbv) ?_
       refine ra hA 1 (by cbv) (od ?_)
       refine go_cond rfl (fun c13 => ?_) (fun c13 => ?_)
       ·
        exact no_t c13 (show (A.bnot true) = false from by subst hA; rfl)
       ·
        refine gk (gs (gr (ra hA 1 (by cbv) (od ?_))))
        refine go_ret ⟨_, by cbv, ?_⟩
        show _ = (PV.bool true)
        rfl
def S35_1 (p0 : RR) (p1 : Int) : St := { sl := [.sl 17 p0, .sl 17 p0, .bad, .bad, .bad, .int .i64 p1, .bad, .bad, .bad, .bad, .bad, .bad, .bad, .bad, .bad, .bad, .bad, .bad, .bad, .bad, .bad, .bad, .bad, .bad, .bad, .bad, .bad], bl := [] }
theorem r_laws_eqSessionS (A : Alg) (hA : A = std) (xs : List GSession) (hk : ∀ k ∈ zsSessionS xs, (k : Int) ≤ 4611686018427387904) : Real Tryz.prog 35 [.sl 17 (List.map eSession xs), .sl 17 (List.map eSession xs)] (.bool true) := by
 obtain ⟨a0, a1⟩ := nm (xs.map eSession)
 have n2 := rlen_map hA a1
 refine real_args (args' := [.sl 17 a0, .sl 17 a0]) (by subst a1; rfl) ?_
 have hlen : (List.length xs : Int) ≤ 4611686018427387904 := hk _ (by simp [zsSessionS])
 refine real tyOk Tryz.func35 (by kernel_rfl) (afun_of rfl ?_)
 refine gs (gr (ra hA 1 (by cbv) (od ?_)))
 refine gs (gs (gr (ra hA 5 (by cbv) (od ?_))))
 refine go_cond rfl (fun c1 => ?_) (fun c1 => ?_)
 ·
  exact no_t c1 (show (A.cmp .neq (A.rlen a0) (A.rlen a0)) = false from by subst hA; simp [std])
 ·
  refine gk (gs (gs (gr (ra hA 1 (by cbv) (od ?_)))))
  refine go_block ?_
  refine go_loopE (fun σ m => ∃ (i : Nat) (n5 : Int), σ = (S35_1 a0 n5) ∧ (n5 = (i : Int) ∧ i ≤ List.length xs) ∧ m = List.length xs - i) _ [] [0, 1, 5] [] (S35_1 a0 0) rfl (by cbv) ⟨0, 0, rfl, ?_, rfl⟩ (fun σ m hI => ?_)
  ·
   exact ⟨rfl, Nat.zero_le _⟩
  obtain ⟨i, n5, rfl, ⟨hn5, hi⟩, rfl⟩ := hI
  refine gs (gs (gr (ra hA 4 (by cbv) (od ?_))))
  refine go_cond rfl (fun c2 => ?_) (fun c2 => ?_)
  ·
   have ec2 : n5 < (A.rlen a0) := lss_t hA c2
   refine gk (gs ?_)
   refine go_block ?_
   refine gs ?_
   refine go_draw (by cbv) ?_
   refine rd hA 2 (by cbv) ?_
   have b2 : (0 : Int) ≤ n5 := by
    omega
   have g9 : (Int.toNat n5) < List.length xs := by
    omega
   obtain ⟨x3, hx3⟩ : ∃ x, (xs)[(Int.toNat n5)]? = some x := ⟨_, List.getElem?_eq_getElem g9⟩
   have l5 := List.mem_of_getElem? hx3
   obtain ⟨p9, s6, r4, q0, ⟨e6, g3, q2, o6⟩, ⟨e4, g1, n0, o4⟩, ⟨g0, i7, k5, f9, p6⟩⟩ := x3
   obtain ⟨l7, k2⟩ := nm (q2.map eString)
   have v5 := rlen_map hA k2
   obtain ⟨j3, g4⟩ := nm (o6.map eString)
   have u6 := rlen_map hA g4
   obtain ⟨g6, f2⟩ := nm (n0.map eMail)
   have u5 := rlen_map hA f2
   obtain ⟨j9, g8⟩ := nm (o4.map eBool)
   have u7 := rlen_map hA g8
   obtain ⟨k1, i5⟩ := nm (p6.map eInt)
   have v1 := rlen_map hA i5
   have b4 : a0[(Int.toNat n5)]? = some [.int .i64 p9, .str s6, .str r4, .bool q0, .int .i64 e6, .str g3, .sl 1 l7, .sl 1 j3, .int .i64 e4, .str g1, .sl 3 g6, .sl 1 j9, .int .i64 g0, .str i7, .str k5, .int .i64 f9, .sl 1 k1] := by
    subst k2 g4 f2 g8 i5; exact map_at eSession a1 hx3
   have hkx := fun (k : Nat) h => hk k (List.mem_cons_of_mem _ (List.mem_flatMap.2 ⟨_, l5, h⟩))
   refine dops_step rfl rfl rfl (idx_sl rfl rfl rfl rfl rfl b2 rfl b4) ?_
   refine rd hA 3 (by cbv) ?_
   refine dops_step rfl rfl rfl (idx_sl rfl rfl rfl rfl rfl b2 rfl b4) ?_
   refine rd hA 1 (by cbv) ?_
   have hc5 : Real Tryz.prog 68 [.agg [.int .i64 p9, .str s6, .str r4, .bool q0, .int .i64 e6, .str g3, .sl 1 l7, .sl 1 j3, .int .i64 e4, .str g1, .sl 3 g6, .sl 1 j9, .int .i64 g0, .str i7, .str k5, .int .i64 f9, .sl 1 k1], .agg [.int .i64 p9, .str s6, .str r4, .bool q0, .int .i64 e6, .str g3, .sl 1 l7, .sl 1 j3, .int .i64 e4, .str g1, .sl 3 g6, .sl 1 j9, .int .i64 g0, .str i7, .str k5, .int .i64 f9, .sl 1 k1]] (.bool true) := by subst k2 g4 f2 g8 i5; exact r_laws_eqSession A hA (⟨p9, s6, r4, q0, ⟨e6, g3, q2, o6⟩, ⟨e4, g1, n0, o4⟩, ⟨g0, i7, k5, f9, p6⟩⟩ : GSession) hkx
   refine dops_callV rfl rfl (by cbv) (by cbv) hc5 (.inr rfl) ?_
   refine rd hA 1 (by cbv) (dd_ ?_)
   refine go_cond rfl (fun c6 => ?_) (fun c6 => ?_)
   ·
    exact no_t c6 (show (A.bnot true) = false from by subst hA; rfl)
   ·
    refine gk (gr (ra hA 3 (by cbv) (od ?_)))
    refine ⟨(S35_1 a0 (A.num .add .i64 n5 1)), List.length xs - (i + 1), ?_, by cbv, i + 1, (A.num .add .i64 n5 1), rfl, ?_, rfl⟩
    ·
     omega
    ·
     exact ⟨by rw [add_i64 hA (by omega) (by omega)]; omega, by omega⟩
  ·
   have ec2 : (A.rlen a0) ≤ n5 := lss_f hA c2
   refine go_exit ⟨fun _ => ?_, fun h => absurd rfl h⟩
   refine gs (gr (ra hA 1 (by cbv) (od ?_)))
   refine go_ret ⟨_, by cbv, ?_⟩
   show _ = (PV.bool true)
   rfl
theorem r_laws_eqServer (A : Alg) (hA : A = std) (x : GServer) (hk : ∀ k ∈ zsServer x, (k : Int) ≤ 4611686018427387904) : Real Tryz.prog 11 [.agg (eServer x), .agg (eServer x)] (.bool true) := by
 obtain ⟨⟨⟨⟨e2, f4⟩, b3, m0, a5, a6, a9, a3⟩, o7⟩, q7⟩ := x
 obtain ⟨a2, a7⟩ := nm (e2.map eString)
 have r8 := rlen_map hA a7
 obtain ⟨a4, b0⟩ := nm (f4.map eWrite)
 have s2 := rlen_map hA b0
 obtain ⟨b9, d5⟩ := nm (m0.map eSeg)
 have t9 := rlen_map hA d5
 obtain ⟨d7, g5⟩ := nm (o7.map eInt)
 have u9 := rlen_map hA g5
 obtain ⟨i8, l3⟩ := nm (q7.map eSession)
 have v8 := rlen_map hA l3
 refine real_args (args' := [.agg [.sl 1 a2, .sl 2 a4, .int .i64 b3, .sl 4 b9, .int .i64 a5, .int .i64 a6, .int .i64 a9, .int .i64 a3, .sl 1 d7, .sl 17 i8], .agg [.sl 1 a2, .sl 2 a4, .int .i64 b3, .sl 4 b9, .int .i64 a5, .int .i64 a6, .int .i64 a9, .int .i64 a3, .sl 1 d7, .sl 17 i8]]) (by subst a7 b0 d5 g5 l3; rfl) ?_
 refine real tyOk Tryz.func11 (by kernel_rfl) (afun_of rfl ?_)
 refine gs (gr (ra hA 3 (by cbv) (od ?_)))
 refine gs (gs (gr (ra hA 4 (by cbv) ?_)))
 have hc2 : Real Tryz.prog 34 [.agg [.sl 1 a2, .sl 2 a4, .int .i64 b3, .sl 4 b9, .int .i64 a5, .int .i64 a6, .int .i64 a9, .int .i64 a3, .sl 1 d7], .agg [.sl 1 a2, .sl 2 a4, .int .i64 b3, .sl 4 b9, .int .i64 a5, .int .i64 a6, .int .i64 a9, .int .i64 a3, .sl 1 d7]] (.bool true) := by subst a7 b0 d5 g5; exact r_laws_eqStore A hA (⟨⟨⟨e2, f4⟩, b3, m0, a5, a6, a9, a3⟩, o7⟩ : GStore) (fun k h => hk k (by simp only [zsServer, List.mem_append]; simp only [h, true_or, or_true]))
 refine ops_callV rfl rfl (by cbv) (by cbv) hc2 (.inr rfl) (by cbv) ?_
 refine ra hA 1 (by cbv) (od ?_)
 refine go_cond rfl (fun c3 => ?_) (fun c3 => ?_)
 ·
  exact no_t c3 (show (A.bnot true) = false from by subst hA; rfl)
 ·
  refine gk (gs (gs (gr (ra hA 4 (by cbv) ?_))))
  have hc5 : Real Tryz.prog 35 [.sl 17 i8, .sl 17 i8] (.bool true) := by subst l3; exact r_laws_eqSessionS A hA q7 (fun k h => hk k (by simp only [zsServer, List.mem_append]; simp only [h, true_or, or_true]))
  refine ops_callV rfl rfl (by cbv) (by cbv) hc5 (.inr rfl) (by cbv) ?_
  refine ra hA 1 (by cbv) (od ?_)
  refine go_cond rfl (fun c6 => ?_) (fun c6 => ?_)
  ·
   exact no_t c6 (show (A.bnot true) = false from by subst hA; rfl)
  ·
   refine gk (gs (gr (ra hA 1 (by cbv) (od ?_))))
   refine go_ret ⟨_, by cbv, ?_⟩
   show _ = (PV.bool true)
   rfl
end Go.Av

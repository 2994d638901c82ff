/- Walks: to of servers. -/
import Derived.Test.YtjbokkoiicoahaaGreatTy
namespace Go.Av
open Go Go.Proofs
set_option maxRecDepth 100000
set_option maxHeartbeats 4000000
set_option linter.unusedVariables false
set_option linter.unusedSimpArgs false
def S145_1 (p0 : RR) (p1 : Int) (p2 : RR) : St := { sl := [.sl 1 p0, .bad, .bad, .own 7, .ii p1, .bad, .bad, .bad, .bad, .bad, .bad, .bad, .bad, .bad, .bad, .bad, .bad, .bad, .bad, .bad, .bad, .bad], bl := [(7, ⟨.arr, 1, p2⟩)] }
theorem r_laws_toStringS (A : Alg) (hA : A = std) (xs : List ByteArray) (hk : ∀ k ∈ zsStringS xs, k ≤ 1048576) : Real Tryz.prog 145 [.sl 1 (List.map eString xs)] (.ow 1 (List.map eString xs)) := by
 obtain ⟨a0, a2⟩ := nm (xs.map eString)
 have d4 := rlen_map hA a2
 refine real_args (args' := [.sl 1 a0]) (by subst a2; rfl) ?_
 have hlen : List.length xs ≤ 1048576 := hk _ (by simp [zsStringS])
 refine real tyOk Tryz.func145 (by kernel_rfl) (afun_of rfl ?_)
 refine gx hA 1 ?_
 refine gs (gr (rn hA 2 ?_))
 obtain ⟨rm, hrm⟩ := nm (List.replicate (Int.toNat (A.rlen a0)) [.str ByteArray.empty] : RR)
 have hn0 : (0 : Int) ≤ A.rlen a0 := by omega
 have hmax : A.rlen a0 * 16 ≤ 140737488355328 := by omega
 refine ops_step rfl rfl (mk_arr rfl rfl rfl rfl rfl rfl hn0 hmax (by decide) (by decide) rfl hrm) ?_
 refine rz hA 1 ?_
 refine gs (gx hA 1 ?_)
 refine go_block ?_
 refine go_loopE (fun σ m => ∃ (i : Nat) (ro : RR) (n4 : Int), σ = (S145_1 a0 n4 ro) ∧ (n4 = (i : Int) ∧ i ≤ List.length xs ∧ ro = fill eString [.str ByteArray.empty] xs i) ∧ m = List.length xs - i) _ [] [0, 3, 4] [7] (S145_1 a0 0 rm) rfl (by cbv) ⟨0, rm, 0, rfl, ?_, rfl⟩ (fun σ m hI => ?_)
 ·
  exact ⟨rfl, Nat.zero_le _, by rw [hrm, fill_zero, d4]; rfl⟩
 obtain ⟨i, ro, n4, rfl, ⟨hn4, hi, hro⟩, rfl⟩ := hI
 refine gs (gx hA 4 ?_)
 refine go_cond rfl (fun c1 => ?_) (fun c1 => ?_)
 ·
  have ec1 : n4 < (A.rlen a0) := lss_t hA c1
  refine gk (gs ?_)
  refine go_block ?_
  refine gr (rn hA 4 ?_)
  have g9 : (0 : Int) ≤ n4 := by
   omega
  have i3 : (Int.toNat n4) < List.length xs := by
   omega
  obtain ⟨x2, hx2⟩ : ∃ x, (xs)[(Int.toNat n4)]? = some x := ⟨_, List.getElem?_eq_getElem i3⟩
  have m0 := List.mem_of_getElem? hx2
  have i4 : a0[(Int.toNat n4)]? = some [.str x2] := by
   exact map_at eString a2 hx2
  refine ops_step rfl rfl (idx_sl rfl rfl rfl rfl rfl g9 rfl i4) ?_
  refine rn hA 1 ?_
  have hlo : n4 < (List.length ro : Int) := by
   rw [hro, fill_len _ _ _ hi]; omega
  refine ops_step rfl rfl (idx_own rfl rfl rfl rfl rfl rfl (by omega) hlo rfl) ?_
  have a1 := hx2
  rw [hn4] at a1
  have a1 : xs[i]? = some _ := a1
  have hz : ro[Int.toNat n4]? = some [.str ByteArray.empty] := by
   rw [hro, hn4]; exact fill_at _ _ _ (by omega)
  have hset : fill eString [.str ByteArray.empty] xs (i + 1) = ro.set (Int.toNat n4) [.str x2] := by
   rw [hro, hn4]; exact (fill_set eString _ xs a1).symm
  obtain ⟨ro2, b6⟩ : ∃ r, r = fill eString [.str ByteArray.empty] xs (i + 1) := ⟨_, rfl⟩
  rw [← b6] at hset
  refine ops_step rfl rfl (sto_arr (r := [.str ByteArray.empty]) (cs := [.str x2]) rfl rfl rfl rfl rfl ⟨_, _, rfl⟩ rfl rfl hz rfl hset) ?_
  refine od ?_
  refine gy hA 3 ?_
  refine ⟨(S145_1 a0 (A.num .add .i64 n4 1) ro2), List.length xs - (i + 1), ?_, by cbv, i + 1, ro2, (A.num .add .i64 n4 1), rfl, ?_, rfl⟩
  ·
   omega
  exact ⟨by rw [add_i64 hA (by omega) (by omega)]; omega, by omega, b6⟩
 have ec1 : (A.rlen a0) ≤ n4 := lss_f hA c1
 refine go_exit ⟨fun _ => ?_, fun h => absurd rfl h⟩
 refine gx hA 2 ?_
 refine go_ret ⟨_, by cbv, ?_⟩
 show _ = (PV.ow 1 ro)
 refine congrArg (PV.ow 1) ?_
 rw [hro, fill_all _ _ _ (by omega)]
theorem r_laws_toWrite (A : Alg) (hA : A = std) (x : GWrite) (hk : ∀ k ∈ zsWrite x, k ≤ 1048576) : Real Tryz.prog 181 [.agg (eWrite x)] (.agg (eoWrite x)) := by
 obtain ⟨D6, l2⟩ := x
 refine real_args (args' := [.agg [.ii D6, .str l2]]) (by rfl) ?_
 refine real tyOk Tryz.func181 (by kernel_rfl) (afun_of rfl ?_)
 refine gx hA 2 ?_
 refine gx hA 1 ?_
 refine gx hA 4 ?_
 refine gx hA 4 ?_
 refine gx hA 2 ?_
 refine go_ret ⟨_, by cbv, ?_⟩
 show _ = (PV.agg [.ii D6, .str l2])
 rfl
def S146_1 (p0 : RR) (p1 : Int) (p2 : RR) : St := { sl := [.sl 2 p0, .bad, .bad, .own 7, .ii p1, .bad, .bad, .bad, .bad, .bad, .bad, .bad, .bad, .bad, .bad, .bad, .bad, .bad, .bad, .bad, .bad, .bad, .bad], bl := [(7, ⟨.arr, 2, p2⟩)] }
theorem r_laws_toWriteS (A : Alg) (hA : A = std) (xs : List GWrite) (hk : ∀ k ∈ zsWriteS xs, k ≤ 1048576) : Real Tryz.prog 146 [.sl 2 (List.map eWrite xs)] (.ow 2 (List.map eoWrite xs)) := by
 obtain ⟨a0, a2⟩ := nm (xs.map eWrite)
 have d4 := rlen_map hA a2
 refine real_args (args' := [.sl 2 a0]) (by subst a2; rfl) ?_
 have hlen : List.length xs ≤ 1048576 := hk _ (by simp [zsWriteS])
 refine real tyOk Tryz.func146 (by kernel_rfl) (afun_of rfl ?_)
 refine gx hA 1 ?_
 refine gs (gr (rn hA 2 ?_))
 obtain ⟨rm, hrm⟩ := nm (List.replicate (Int.toNat (A.rlen a0)) [.ii 0, .str ByteArray.empty] : RR)
 have hn0 : (0 : Int) ≤ A.rlen a0 := by omega
 have hmax : A.rlen a0 * 24 ≤ 140737488355328 := by omega
 refine ops_step rfl rfl (mk_arr rfl rfl rfl rfl rfl rfl hn0 hmax (by decide) (by decide) rfl hrm) ?_
 refine rz hA 1 ?_
 refine gs (gx hA 1 ?_)
 refine go_block ?_
 refine go_loopE (fun σ m => ∃ (i : Nat) (ro : RR) (n4 : Int), σ = (S146_1 a0 n4 ro) ∧ (n4 = (i : Int) ∧ i ≤ List.length xs ∧ ro = fill eoWrite [.ii 0, .str ByteArray.empty] xs i) ∧ m = List.length xs - i) _ [] [0, 3, 4] [7] (S146_1 a0 0 rm) rfl (by cbv) ⟨0, rm, 0, rfl, ?_, rfl⟩ (fun σ m hI => ?_)
 ·
  exact ⟨rfl, Nat.zero_le _, by rw [hrm, fill_zero, d4]; rfl⟩
 obtain ⟨i, ro, n4, rfl, ⟨hn4, hi, hro⟩, rfl⟩ := hI
 refine gs (gx hA 4 ?_)
 refine go_cond rfl (fun c1 => ?_) (fun c1 => ?_)
 ·
  have ec1 : n4 < (A.rlen a0) := lss_t hA c1
  refine gk (gs ?_)
  refine go_block ?_
  refine gr (rn hA 4 ?_)
  have g9 : (0 : Int) ≤ n4 := by
   omega
  have i3 : (Int.toNat n4) < List.length xs := by
   omega
  obtain ⟨x2, hx2⟩ : ∃ x, (xs)[(Int.toNat n4)]? = some x := ⟨_, List.getElem?_eq_getElem i3⟩
  have m0 := List.mem_of_getElem? hx2
  obtain ⟨t1, b2⟩ := x2
  have i4 : a0[(Int.toNat n4)]? = some [.ii t1, .str b2] := by
   exact map_at eWrite a2 hx2
  have hkx := fun (k : Nat) h => hk k (List.mem_cons_of_mem _ (List.mem_flatMap.2 ⟨_, m0, h⟩))
  refine ops_step rfl rfl (idx_sl rfl rfl rfl rfl rfl g9 rfl i4) ?_
  refine rn hA 1 ?_
  have hc4 : Real Tryz.prog 181 [.agg [.ii t1, .str b2]] (.agg [.ii t1, .str b2]) := by exact r_laws_toWrite A hA (⟨t1, b2⟩ : GWrite) hkx
  refine ops_callV rfl rfl (by cbv) (by cbv) hc4 (.inr rfl) (by cbv) ?_
  have hlo : n4 < (List.length ro : Int) := by
   rw [hro, fill_len _ _ _ hi]; omega
  refine ops_step rfl rfl (idx_own rfl rfl rfl rfl rfl rfl (by omega) hlo rfl) ?_
  have a1 := hx2
  rw [hn4] at a1
  have a1 : xs[i]? = some _ := a1
  have hz : ro[Int.toNat n4]? = some [.ii 0, .str ByteArray.empty] := by
   rw [hro, hn4]; exact fill_at _ _ _ (by omega)
  have hset : fill eoWrite [.ii 0, .str ByteArray.empty] xs (i + 1) = ro.set (Int.toNat n4) [.ii t1, .str b2] := by
   rw [hro, hn4]; exact (fill_set eoWrite _ xs a1).symm
  obtain ⟨ro2, b6⟩ : ∃ r, r = fill eoWrite [.ii 0, .str ByteArray.empty] xs (i + 1) := ⟨_, rfl⟩
  rw [← b6] at hset
  refine ops_step rfl rfl (sto_arr (r := [.ii 0, .str ByteArray.empty]) (cs := [.ii t1, .str b2]) rfl rfl rfl rfl rfl ⟨_, _, rfl⟩ rfl rfl hz rfl hset) ?_
  refine od ?_
  refine gy hA 3 ?_
  refine ⟨(S146_1 a0 (A.num .add .i64 n4 1) ro2), List.length xs - (i + 1), ?_, by cbv, i + 1, ro2, (A.num .add .i64 n4 1), rfl, ?_, rfl⟩
  ·
   omega
  exact ⟨by rw [add_i64 hA (by omega) (by omega)]; omega, by omega, b6⟩
 have ec1 : (A.rlen a0) ≤ n4 := lss_f hA c1
 refine go_exit ⟨fun _ => ?_, fun h => absurd rfl h⟩
 refine gx hA 2 ?_
 refine go_ret ⟨_, by cbv, ?_⟩
 show _ = (PV.ow 2 ro)
 refine congrArg (PV.ow 2) ?_
 rw [hro, fill_all _ _ _ (by omega)]
theorem r_laws_toDisk (A : Alg) (hA : A = std) (x : GDisk) (hk : ∀ k ∈ zsDisk x, k ≤ 1048576) : Real Tryz.prog 105 [.agg (eDisk x)] (.agg (eoDisk x)) := by
 obtain ⟨r8, u8⟩ := x
 obtain ⟨t4, n8⟩ := nm (r8.map eString)
 have C9 := rlen_map hA n8
 obtain ⟨v2, r2⟩ := nm (u8.map eWrite)
 have E6 := rlen_map hA r2
 refine real_args (args' := [.agg [.sl 1 t4, .sl 2 v2]]) (by subst n8 r2; rfl) ?_
 refine real tyOk Tryz.func105 (by kernel_rfl) (afun_of rfl ?_)
 refine gx hA 2 ?_
 refine gx hA 1 ?_
 refine gs (gr (rn hA 2 ?_))
 obtain ⟨x4, C0, hc2⟩ : ∃ (x4 : RR), x4 = List.map eString r8 ∧ Real Tryz.prog 145 [.sl 1 t4] (.ow 1 x4) := ⟨_, rfl, by subst n8; exact r_laws_toStringS A hA r8 (fun k h => hk k (by simp only [zsDisk, List.mem_append]; simp only [h, true_or, or_true]))⟩
 have F7 := rlen_map hA C0
 refine ops_callV rfl rfl (by cbv) (by cbv) hc2 (.inr rfl) (by cbv) ?_
 refine rz hA 2 ?_
 refine gs (gr (rn hA 2 ?_))
 obtain ⟨e9, l1, hc4⟩ : ∃ (e9 : RR), e9 = List.map eoWrite u8 ∧ Real Tryz.prog 146 [.sl 2 v2] (.ow 2 e9) := ⟨_, rfl, by subst r2; exact r_laws_toWriteS A hA u8 (fun k h => hk k (by simp only [zsDisk, List.mem_append]; simp only [h, true_or, or_true]))⟩
 have y1 := rlen_map hA l1
 refine ops_callV rfl rfl (by cbv) (by cbv) hc4 (.inr rfl) (by cbv) ?_
 refine rz hA 2 ?_
 refine gx hA 2 ?_
 refine go_ret ⟨_, by cbv, ?_⟩
 show _ = (PV.agg [.ow 1 x4, .ow 2 e9])
 subst C0 l1
 rfl
theorem r_laws_toRec (A : Alg) (hA : A = std) (x : GRec) (hk : ∀ k ∈ zsRec x, k ≤ 1048576) : Real Tryz.prog 208 [.agg (eRec x)] (.agg (eoRec x)) := by
 obtain ⟨s5, p8, u2, y9, q4, l0, y3, l2⟩ := x
 refine real_args (args' := [.agg [.ii s5, .ii p8, .ii u2, .ii y9, .ii q4, .str l0, .str y3, .str l2]]) (by rfl) ?_
 refine real tyOk Tryz.func208 (by kernel_rfl) (afun_of rfl ?_)
 refine gx hA 2 ?_
 refine gx hA 1 ?_
 refine gx hA 4 ?_
 refine gx hA 4 ?_
 refine gx hA 4 ?_
 refine gx hA 4 ?_
 refine gx hA 4 ?_
 refine gx hA 4 ?_
 refine gx hA 4 ?_
 refine gx hA 4 ?_
 refine gx hA 2 ?_
 refine go_ret ⟨_, by cbv, ?_⟩
 show _ = (PV.agg [.ii s5, .ii p8, .ii u2, .ii y9, .ii q4, .str l0, .str y3, .str l2])
 rfl
theorem r_laws_toItem (A : Alg) (hA : A = std) (x : GItem) (hk : ∀ k ∈ zsItem x, k ≤ 1048576) : Real Tryz.prog 194 [.agg (eItem x)] (.agg (eoItem x)) := by
 obtain ⟨B6, ⟨j7, g2, k9, j1, g4, j0, i6, j8⟩⟩ := x
 refine real_args (args' := [.agg [.ii B6, .ii j7, .ii g2, .ii k9, .ii j1, .ii g4, .str j0, .str i6, .str j8]]) (by rfl) ?_
 refine real tyOk Tryz.func194 (by kernel_rfl) (afun_of rfl ?_)
 refine gx hA 2 ?_
 refine gx hA 1 ?_
 refine gx hA 4 ?_
 refine gs (gr (rn hA 2 ?_))
 have hc2 : Real Tryz.prog 208 [.agg [.ii j7, .ii g2, .ii k9, .ii j1, .ii g4, .str j0, .str i6, .str j8]] (.agg [.ii j7, .ii g2, .ii k9, .ii j1, .ii g4, .str j0, .str i6, .str j8]) := by exact r_laws_toRec A hA (⟨j7, g2, k9, j1, g4, j0, i6, j8⟩ : GRec) (fun k h => hk k (by simp only [zsItem, List.mem_append]; simp only [h, true_or, or_true]))
 refine ops_callV rfl rfl (by cbv) (by cbv) hc2 (.inr rfl) (by cbv) ?_
 refine rz hA 2 ?_
 refine gx hA 2 ?_
 refine go_ret ⟨_, by cbv, ?_⟩
 show _ = (PV.agg [.ii B6, .ii j7, .ii g2, .ii k9, .ii j1, .ii g4, .str j0, .str i6, .str j8])
 rfl
def S182_1 (p0 : RR) (p1 : Int) (p2 : RR) : St := { sl := [.sl 9 p0, .bad, .bad, .own 7, .ii p1, .bad, .bad, .bad, .bad, .bad, .bad, .bad, .bad, .bad, .bad, .bad, .bad, .bad, .bad, .bad, .bad, .bad, .bad], bl := [(7, ⟨.arr, 9, p2⟩)] }
theorem r_laws_toItemS (A : Alg) (hA : A = std) (xs : List GItem) (hk : ∀ k ∈ zsItemS xs, k ≤ 1048576) : Real Tryz.prog 182 [.sl 9 (List.map eItem xs)] (.ow 9 (List.map eoItem xs)) := by
 obtain ⟨a0, a2⟩ := nm (xs.map eItem)
 have d4 := rlen_map hA a2
 refine real_args (args' := [.sl 9 a0]) (by subst a2; rfl) ?_
 have hlen : List.length xs ≤ 1048576 := hk _ (by simp [zsItemS])
 refine real tyOk Tryz.func182 (by kernel_rfl) (afun_of rfl ?_)
 refine gx hA 1 ?_
 refine gs (gr (rn hA 2 ?_))
 obtain ⟨rm, hrm⟩ := nm (List.replicate (Int.toNat (A.rlen a0)) [.ii 0, .ii 0, .ii 0, .ii 0, .ii 0, .ii 0, .str ByteArray.empty, .str ByteArray.empty, .str ByteArray.empty] : RR)
 have hn0 : (0 : Int) ≤ A.rlen a0 := by omega
 have hmax : A.rlen a0 * 96 ≤ 140737488355328 := by omega
 refine ops_step rfl rfl (mk_arr rfl rfl rfl rfl rfl rfl hn0 hmax (by decide) (by decide) rfl hrm) ?_
 refine rz hA 1 ?_
 refine gs (gx hA 1 ?_)
 refine go_block ?_
 refine go_loopE (fun σ m => ∃ (i : Nat) (ro : RR) (n4 : Int), σ = (S182_1 a0 n4 ro) ∧ (n4 = (i : Int) ∧ i ≤ List.length xs ∧ ro = fill eoItem [.ii 0, .ii 0, .ii 0, .ii 0, .ii 0, .ii 0, .str ByteArray.empty, .str ByteArray.empty, .str ByteArray.empty] xs i) ∧ m = List.length xs - i) _ [] [0, 3, 4] [7] (S182_1 a0 0 rm) rfl (by cbv) ⟨0, rm, 0, rfl, ?_, rfl⟩ (fun σ m hI => ?_)
 ·
  exact ⟨rfl, Nat.zero_le _, by rw [hrm, fill_zero, d4]; rfl⟩
 obtain ⟨i, ro, n4, rfl, ⟨hn4, hi, hro⟩, rfl⟩ := hI
 refine gs (gx hA 4 ?_)
 refine go_cond rfl (fun c1 => ?_) (fun c1 => ?_)
 ·
  have ec1 : n4 < (A.rlen a0) := lss_t hA c1
  refine gk (gs ?_)
  refine go_block ?_
  refine gr (rn hA 4 ?_)
  have g9 : (0 : Int) ≤ n4 := by
   omega
  have i3 : (Int.toNat n4) < List.length xs := by
   omega
  obtain ⟨x2, hx2⟩ : ∃ x, (xs)[(Int.toNat n4)]? = some x := ⟨_, List.getElem?_eq_getElem i3⟩
  have m0 := List.mem_of_getElem? hx2
  obtain ⟨q1, ⟨e2, d1, f6, e1, c9, e0, e5, e4⟩⟩ := x2
  have i4 : a0[(Int.toNat n4)]? = some [.ii q1, .ii e2, .ii d1, .ii f6, .ii e1, .ii c9, .str e0, .str e5, .str e4] := by
   exact map_at eItem a2 hx2
  have hkx := fun (k : Nat) h => hk k (List.mem_cons_of_mem _ (List.mem_flatMap.2 ⟨_, m0, h⟩))
  refine ops_step rfl rfl (idx_sl rfl rfl rfl rfl rfl g9 rfl i4) ?_
  refine rn hA 1 ?_
  have hc4 : Real Tryz.prog 194 [.agg [.ii q1, .ii e2, .ii d1, .ii f6, .ii e1, .ii c9, .str e0, .str e5, .str e4]] (.agg [.ii q1, .ii e2, .ii d1, .ii f6, .ii e1, .ii c9, .str e0, .str e5, .str e4]) := by exact r_laws_toItem A hA (⟨q1, ⟨e2, d1, f6, e1, c9, e0, e5, e4⟩⟩ : GItem) hkx
  refine ops_callV rfl rfl (by cbv) (by cbv) hc4 (.inr rfl) (by cbv) ?_
  have hlo : n4 < (List.length ro : Int) := by
   rw [hro, fill_len _ _ _ hi]; omega
  refine ops_step rfl rfl (idx_own rfl rfl rfl rfl rfl rfl (by omega) hlo rfl) ?_
  have a1 := hx2
  rw [hn4] at a1
  have a1 : xs[i]? = some _ := a1
  have hz : ro[Int.toNat n4]? = some [.ii 0, .ii 0, .ii 0, .ii 0, .ii 0, .ii 0, .str ByteArray.empty, .str ByteArray.empty, .str ByteArray.empty] := by
   rw [hro, hn4]; exact fill_at _ _ _ (by omega)
  have hset : fill eoItem [.ii 0, .ii 0, .ii 0, .ii 0, .ii 0, .ii 0, .str ByteArray.empty, .str ByteArray.empty, .str ByteArray.empty] xs (i + 1) = ro.set (Int.toNat n4) [.ii q1, .ii e2, .ii d1, .ii f6, .ii e1, .ii c9, .str e0, .str e5, .str e4] := by
   rw [hro, hn4]; exact (fill_set eoItem _ xs a1).symm
  obtain ⟨ro2, b6⟩ : ∃ r, r = fill eoItem [.ii 0, .ii 0, .ii 0, .ii 0, .ii 0, .ii 0, .str ByteArray.empty, .str ByteArray.empty, .str ByteArray.empty] xs (i + 1) := ⟨_, rfl⟩
  rw [← b6] at hset
  refine ops_step rfl rfl (sto_arr (r := [.ii 0, .ii 0, .ii 0, .ii 0, .ii 0, .ii 0, .str ByteArray.empty, .str ByteArray.empty, .str ByteArray.empty]) (cs := [.ii q1, .ii e2, .ii d1, .ii f6, .ii e1, .ii c9, .str e0, .str e5, .str e4]) rfl rfl rfl rfl rfl ⟨_, _, rfl⟩ rfl rfl hz rfl hset) ?_
  refine od ?_
  refine gy hA 3 ?_
  refine ⟨(S182_1 a0 (A.num .add .i64 n4 1) ro2), List.length xs - (i + 1), ?_, by cbv, i + 1, ro2, (A.num .add .i64 n4 1), rfl, ?_, rfl⟩
  ·
   omega
  exact ⟨by rw [add_i64 hA (by omega) (by omega)]; omega, by omega, b6⟩
 have ec1 : (A.rlen a0) ≤ n4 := lss_f hA c1
 refine go_exit ⟨fun _ => ?_, fun h => absurd rfl h⟩
 refine gx hA 2 ?_
 refine go_ret ⟨_, by cbv, ?_⟩
 show _ = (PV.ow 9 ro)
 refine congrArg (PV.ow 9) ?_
 rw [hro, fill_all _ _ _ (by omega)]
theorem r_laws_toSeg (A : Alg) (hA : A = std) (x : GSeg) (hk : ∀ k ∈ zsSeg x, k ≤ 1048576) : Real Tryz.prog 147 [.agg (eSeg x)] (.agg (eoSeg x)) := by
 obtain ⟨D3, B2, B8, u6⟩ := x
 obtain ⟨v6, q9⟩ := nm (u6.map eItem)
 have E4 := rlen_map hA q9
 refine real_args (args' := [.agg [.ii D3, .ii B2, .ii B8, .sl 9 v6]]) (by subst q9; rfl) ?_
 refine real tyOk Tryz.func147 (by kernel_rfl) (afun_of rfl ?_)
 refine gx hA 2 ?_
 refine gx hA 1 ?_
 refine gx hA 4 ?_
 refine gx hA 4 ?_
 refine gx hA 4 ?_
 refine gs (gr (rn hA 2 ?_))
 obtain ⟨v8, x8, hc2⟩ : ∃ (v8 : RR), v8 = List.map eoItem u6 ∧ Real Tryz.prog 182 [.sl 9 v6] (.ow 9 v8) := ⟨_, rfl, by subst q9; exact r_laws_toItemS A hA u6 (fun k h => hk k (by simp only [zsSeg, List.mem_append]; simp only [h, true_or, or_true]))⟩
 have F6 := rlen_map hA x8
 refine ops_callV rfl rfl (by cbv) (by cbv) hc2 (.inr rfl) (by cbv) ?_
 refine rz hA 2 ?_
 refine gx hA 2 ?_
 refine go_ret ⟨_, by cbv, ?_⟩
 show _ = (PV.agg [.ii D3, .ii B2, .ii B8, .ow 9 v8])
 subst x8
 rfl
def S106_1 (p0 : RR) (p1 : Int) (p2 : RR) : St := { sl := [.sl 4 p0, .bad, .bad, .own 7, .ii p1, .bad, .bad, .bad, .bad, .bad, .bad, .bad, .bad, .bad, .bad, .bad, .bad, .bad, .bad, .bad, .bad, .bad, .bad], bl := [(7, ⟨.arr, 4, p2⟩)] }
theorem r_laws_toSegS (A : Alg) (hA : A = std) (xs : List GSeg) (hk : ∀ k ∈ zsSegS xs, k ≤ 1048576) : Real Tryz.prog 106 [.sl 4 (List.map eSeg xs)] (.ow 4 (List.map eoSeg xs)) := by
 obtain ⟨a0, a2⟩ := nm (xs.map eSeg)
 have d4 := rlen_map hA a2
 refine real_args (args' := [.sl 4 a0]) (by subst a2; rfl) ?_
 have hlen : List.length xs ≤ 1048576 := hk _ (by simp [zsSegS])
 refine real tyOk Tryz.func106 (by kernel_rfl) (afun_of rfl ?_)
 refine gx hA 1 ?_
 refine gs (gr (rn hA 2 ?_))
 obtain ⟨rm, hrm⟩ := nm (List.replicate (Int.toNat (A.rlen a0)) [.ii 0, .ii 0, .ii 0, .zc] : RR)
 have hn0 : (0 : Int) ≤ A.rlen a0 := by omega
 have hmax : A.rlen a0 * 48 ≤ 140737488355328 := by omega
 refine ops_step rfl rfl (mk_arr rfl rfl rfl rfl rfl rfl hn0 hmax (by decide) (by decide) rfl hrm) ?_
 refine rz hA 1 ?_
 refine gs (gx hA 1 ?_)
 refine go_block ?_
 refine go_loopE (fun σ m => ∃ (i : Nat) (ro : RR) (n4 : Int), σ = (S106_1 a0 n4 ro) ∧ (n4 = (i : Int) ∧ i ≤ List.length xs ∧ ro = fill eoSeg [.ii 0, .ii 0, .ii 0, .zc] xs i) ∧ m = List.length xs - i) _ [] [0, 3, 4] [7] (S106_1 a0 0 rm) rfl (by cbv) ⟨0, rm, 0, rfl, ?_, rfl⟩ (fun σ m hI => ?_)
 ·
  exact ⟨rfl, Nat.zero_le _, by rw [hrm, fill_zero, d4]; rfl⟩
 obtain ⟨i, ro, n4, rfl, ⟨hn4, hi, hro⟩, rfl⟩ := hI
 refine gs (gx hA 4 ?_)
 refine go_cond rfl (fun c1 => ?_) (fun c1 => ?_)
 ·
  have ec1 : n4 < (A.rlen a0) := lss_t hA c1
  refine gk (gs ?_)
  refine go_block ?_
  refine gr (rn hA 4 ?_)
  have g9 : (0 : Int) ≤ n4 := by
   omega
  have i3 : (Int.toNat n4) < List.length xs := by
   omega
  obtain ⟨x2, hx2⟩ : ∃ x, (xs)[(Int.toNat n4)]? = some x := ⟨_, List.getElem?_eq_getElem i3⟩
  have m0 := List.mem_of_getElem? hx2
  obtain ⟨t3, p9, q2, u1⟩ := x2
  obtain ⟨u4, p3⟩ := nm (u1.map eItem)
  have D8 := rlen_map hA p3
  have i4 : a0[(Int.toNat n4)]? = some [.ii t3, .ii p9, .ii q2, .sl 9 u4] := by
   subst p3; exact map_at eSeg a2 hx2
  have hkx := fun (k : Nat) h => hk k (List.mem_cons_of_mem _ (List.mem_flatMap.2 ⟨_, m0, h⟩))
  refine ops_step rfl rfl (idx_sl rfl rfl rfl rfl rfl g9 rfl i4) ?_
  refine rn hA 1 ?_
  obtain ⟨g3, s1, hc4⟩ : ∃ (g3 : RR), g3 = List.map eoItem u1 ∧ Real Tryz.prog 147 [.agg [.ii t3, .ii p9, .ii q2, .sl 9 u4]] (.agg [.ii t3, .ii p9, .ii q2, .ow 9 g3]) := ⟨_, rfl, by subst p3; exact r_laws_toSeg A hA (⟨t3, p9, q2, u1⟩ : GSeg) hkx⟩
  have D0 := rlen_map hA s1
  refine ops_callV rfl rfl (by cbv) (by cbv) hc4 (.inr rfl) (by cbv) ?_
  have hlo : n4 < (List.length ro : Int) := by
   rw [hro, fill_len _ _ _ hi]; omega
  refine ops_step rfl rfl (idx_own rfl rfl rfl rfl rfl rfl (by omega) hlo rfl) ?_
  have a1 := hx2
  rw [hn4] at a1
  have a1 : xs[i]? = some _ := a1
  have hz : ro[Int.toNat n4]? = some [.ii 0, .ii 0, .ii 0, .zc] := by
   rw [hro, hn4]; exact fill_at _ _ _ (by omega)
  have hset : fill eoSeg [.ii 0, .ii 0, .ii 0, .zc] xs (i + 1) = ro.set (Int.toNat n4) [.ii t3, .ii p9, .ii q2, .ow 9 g3] := by
   rw [hro, hn4]; subst s1; exact (fill_set eoSeg _ xs a1).symm
  obtain ⟨ro2, b6⟩ : ∃ r, r = fill eoSeg [.ii 0, .ii 0, .ii 0, .zc] xs (i + 1) := ⟨_, rfl⟩
  rw [← b6] at hset
  refine ops_step rfl rfl (sto_arr (r := [.ii 0, .ii 0, .ii 0, .zc]) (cs := [.ii t3, .ii p9, .ii q2, .ow 9 g3]) rfl rfl rfl rfl rfl ⟨_, _, rfl⟩ rfl rfl hz rfl hset) ?_
  refine od ?_
  refine gy hA 3 ?_
  refine ⟨(S106_1 a0 (A.num .add .i64 n4 1) ro2), List.length xs - (i + 1), ?_, by cbv, i + 1, ro2, (A.num .add .i64 n4 1), rfl, ?_, rfl⟩
  ·
   omega
  exact ⟨by rw [add_i64 hA (by omega) (by omega)]; omega, by omega, b6⟩
 have ec1 : (A.rlen a0) ≤ n4 := lss_f hA c1
 refine go_exit ⟨fun _ => ?_, fun h => absurd rfl h⟩
 refine gx hA 2 ?_
 refine go_ret ⟨_, by cbv, ?_⟩
 show _ = (PV.ow 4 ro)
 refine congrArg (PV.ow 4) ?_
 rw [hro, fill_all _ _ _ (by omega)]
theorem r_laws_toLog (A : Alg) (hA : A = std) (x : GLog) (hk : ∀ k ∈ zsLog x, k ≤ 1048576) : Real Tryz.prog 59 [.agg (eLog x)] (.agg (eoLog x)) := by
 obtain ⟨⟨k1, n5⟩, x9, w4, v5, v0, x1, t8⟩ := x
 obtain ⟨n3, f8⟩ := nm (k1.map eString)
 have z0 := rlen_map hA f8
 obtain ⟨q5, i8⟩ := nm (n5.map eWrite)
 have C1 := rlen_map hA i8
 obtain ⟨w5, s8⟩ := nm (w4.map eSeg)
 have F0 := rlen_map hA s8
 refine real_args (args' := [.agg [.sl 1 n3, .sl 2 q5, .ii x9, .sl 4 w5, .ii v5, .ii v0, .ii x1, .ii t8]]) (by subst f8 i8 s8; rfl) ?_
 refine real tyOk Tryz.func59 (by kernel_rfl) (afun_of rfl ?_)
 refine gx hA 2 ?_
 refine gx hA 1 ?_
 refine gs (gr (rn hA 2 ?_))
 obtain ⟨j4, m8, r6, t5, hc2⟩ : ∃ (j4 : RR) (m8 : RR), j4 = List.map eString k1 ∧ m8 = List.map eoWrite n5 ∧ Real Tryz.prog 105 [.agg [.sl 1 n3, .sl 2 q5]] (.agg [.ow 1 j4, .ow 2 m8]) := ⟨_, _, rfl, rfl, by subst f8 i8; exact r_laws_toDisk A hA (⟨k1, n5⟩ : GDisk) (fun k h => hk k (by simp only [zsLog, List.mem_append]; simp only [h, true_or, or_true]))⟩
 have C6 := rlen_map hA r6
 have E1 := rlen_map hA t5
 refine ops_callV rfl rfl (by cbv) (by cbv) hc2 (.inr rfl) (by cbv) ?_
 refine rz hA 2 ?_
 refine gx hA 4 ?_
 refine gs (gr (rn hA 2 ?_))
 obtain ⟨w0, y2, hc4⟩ : ∃ (w0 : RR), w0 = List.map eoSeg w4 ∧ Real Tryz.prog 106 [.sl 4 w5] (.ow 4 w0) := ⟨_, rfl, by subst s8; exact r_laws_toSegS A hA w4 (fun k h => hk k (by simp only [zsLog, List.mem_append]; simp only [h, true_or, or_true]))⟩
 have F5 := rlen_map hA y2
 refine ops_callV rfl rfl (by cbv) (by cbv) hc4 (.inr rfl) (by cbv) ?_
 refine rz hA 2 ?_
 refine gx hA 4 ?_
 refine gx hA 4 ?_
 refine gx hA 4 ?_
 refine gx hA 4 ?_
 refine gx hA 2 ?_
 refine go_ret ⟨_, by cbv, ?_⟩
 show _ = (PV.agg [.ow 1 j4, .ow 2 m8, .ii x9, .ow 4 w0, .ii v5, .ii v0, .ii x1, .ii t8])
 subst r6 t5 y2
 rfl
def S60_1 (p0 : RR) (p1 : Int) (p2 : RR) : St := { sl := [.sl 1 p0, .bad, .bad, .own 7, .ii p1, .bad, .bad, .bad, .bad, .bad, .bad, .bad, .bad, .bad, .bad, .bad, .bad, .bad, .bad, .bad, .bad, .bad], bl := [(7, ⟨.arr, 1, p2⟩)] }
theorem r_laws_toIntS (A : Alg) (hA : A = std) (xs : List Int) (hk : ∀ k ∈ zsIntS xs, k ≤ 1048576) : Real Tryz.prog 60 [.sl 1 (List.map eInt xs)] (.ow 1 (List.map eInt xs)) := by
 obtain ⟨a0, a2⟩ := nm (xs.map eInt)
 have d4 := rlen_map hA a2
 refine real_args (args' := [.sl 1 a0]) (by subst a2; rfl) ?_
 have hlen : List.length xs ≤ 1048576 := hk _ (by simp [zsIntS])
 refine real tyOk Tryz.func60 (by kernel_rfl) (afun_of rfl ?_)
 refine gx hA 1 ?_
 refine gs (gr (rn hA 2 ?_))
 obtain ⟨rm, hrm⟩ := nm (List.replicate (Int.toNat (A.rlen a0)) [.ii 0] : RR)
 have hn0 : (0 : Int) ≤ A.rlen a0 := by omega
 have hmax : A.rlen a0 * 8 ≤ 140737488355328 := by omega
 refine ops_step rfl rfl (mk_arr rfl rfl rfl rfl rfl rfl hn0 hmax (by decide) (by decide) rfl hrm) ?_
 refine rz hA 1 ?_
 refine gs (gx hA 1 ?_)
 refine go_block ?_
 refine go_loopE (fun σ m => ∃ (i : Nat) (ro : RR) (n4 : Int), σ = (S60_1 a0 n4 ro) ∧ (n4 = (i : Int) ∧ i ≤ List.length xs ∧ ro = fill eInt [.ii 0] xs i) ∧ m = List.length xs - i) _ [] [0, 3, 4] [7] (S60_1 a0 0 rm) rfl (by cbv) ⟨0, rm, 0, rfl, ?_, rfl⟩ (fun σ m hI => ?_)
 ·
  exact ⟨rfl, Nat.zero_le _, by rw [hrm, fill_zero, d4]; rfl⟩
 obtain ⟨i, ro, n4, rfl, ⟨hn4, hi, hro⟩, rfl⟩ := hI
 refine gs (gx hA 4 ?_)
 refine go_cond rfl (fun c1 => ?_) (fun c1 => ?_)
 ·
  have ec1 : n4 < (A.rlen a0) := lss_t hA c1
  refine gk (gs ?_)
  refine go_block ?_
  refine gr (rn hA 4 ?_)
  have g9 : (0 : Int) ≤ n4 := by
   omega
  have i3 : (Int.toNat n4) < List.length xs := by
   omega
  obtain ⟨x2, hx2⟩ : ∃ x, (xs)[(Int.toNat n4)]? = some x := ⟨_, List.getElem?_eq_getElem i3⟩
  have m0 := List.mem_of_getElem? hx2
  have i4 : a0[(Int.toNat n4)]? = some [.ii x2] := by
   exact map_at eInt a2 hx2
  refine ops_step rfl rfl (idx_sl rfl rfl rfl rfl rfl g9 rfl i4) ?_
  refine rn hA 1 ?_
  have hlo : n4 < (List.length ro : Int) := by
   rw [hro, fill_len _ _ _ hi]; omega
  refine ops_step rfl rfl (idx_own rfl rfl rfl rfl rfl rfl (by omega) hlo rfl) ?_
  have a1 := hx2
  rw [hn4] at a1
  have a1 : xs[i]? = some _ := a1
  have hz : ro[Int.toNat n4]? = some [.ii 0] := by
   rw [hro, hn4]; exact fill_at _ _ _ (by omega)
  have hset : fill eInt [.ii 0] xs (i + 1) = ro.set (Int.toNat n4) [.ii x2] := by
   rw [hro, hn4]; exact (fill_set eInt _ xs a1).symm
  obtain ⟨ro2, b6⟩ : ∃ r, r = fill eInt [.ii 0] xs (i + 1) := ⟨_, rfl⟩
  rw [← b6] at hset
  refine ops_step rfl rfl (sto_arr (r := [.ii 0]) (cs := [.ii x2]) rfl rfl rfl rfl rfl ⟨_, _, rfl⟩ rfl rfl hz rfl hset) ?_
  refine od ?_
  refine gy hA 3 ?_
  refine ⟨(S60_1 a0 (A.num .add .i64 n4 1) ro2), List.length xs - (i + 1), ?_, by cbv, i + 1, ro2, (A.num .add .i64 n4 1), rfl, ?_, rfl⟩
  ·
   omega
  exact ⟨by rw [add_i64 hA (by omega) (by omega)]; omega, by omega, b6⟩
 have ec1 : (A.rlen a0) ≤ n4 := lss_f hA c1
 refine go_exit ⟨fun _ => ?_, fun h => absurd rfl h⟩
 refine gx hA 2 ?_
 refine go_ret ⟨_, by cbv, ?_⟩
 show _ = (PV.ow 1 ro)
 refine congrArg (PV.ow 1) ?_
 rw [hro, fill_all _ _ _ (by omega)]
theorem r_laws_toStore (A : Alg) (hA : A = std) (x : GStore) (hk : ∀ k ∈ zsStore x, k ≤ 1048576) : Real Tryz.prog 30 [.agg (eStore x)] (.agg (eoStore x)) := by
 obtain ⟨⟨⟨f1, i0⟩, i7, r4, d8, d9, g0, c6⟩, u7⟩ := x
 obtain ⟨j9, d0⟩ := nm (f1.map eString)
 have x3 := rlen_map hA d0
 obtain ⟨k7, e6⟩ := nm (i0.map eWrite)
 have x7 := rlen_map hA e6
 obtain ⟨s7, l5⟩ := nm (r4.map eSeg)
 have C8 := rlen_map hA l5
 obtain ⟨v3, q8⟩ := nm (u7.map eInt)
 have E7 := rlen_map hA q8
 refine real_args (args' := [.agg [.sl 1 j9, .sl 2 k7, .ii i7, .sl 4 s7, .ii d8, .ii d9, .ii g0, .ii c6, .sl 1 v3]]) (by subst d0 e6 l5 q8; rfl) ?_
 refine real tyOk Tryz.func30 (by kernel_rfl) (afun_of rfl ?_)
 refine gx hA 2 ?_
 refine gx hA 1 ?_
 refine gs (gr (rn hA 2 ?_))
 obtain ⟨c8, e8, o8, k6, o0, u3, hc2⟩ : ∃ (c8 : RR) (e8 : RR) (o8 : RR), c8 = List.map eString f1 ∧ e8 = List.map eoWrite i0 ∧ o8 = List.map eoSeg r4 ∧ Real Tryz.prog 59 [.agg [.sl 1 j9, .sl 2 k7, .ii i7, .sl 4 s7, .ii d8, .ii d9, .ii g0, .ii c6]] (.agg [.ow 1 c8, .ow 2 e8, .ii i7, .ow 4 o8, .ii d8, .ii d9, .ii g0, .ii c6]) := ⟨_, _, _, rfl, rfl, rfl, by subst d0 e6 l5; exact r_laws_toLog A hA (⟨⟨f1, i0⟩, i7, r4, d8, d9, g0, c6⟩ : GLog) (fun k h => hk k (by simp only [zsStore, List.mem_append]; simp only [h, true_or, or_true]))⟩
 have y0 := rlen_map hA k6
 have z5 := rlen_map hA o0
 have E3 := rlen_map hA u3
 refine ops_callV rfl rfl (by cbv) (by cbv) hc2 (.inr rfl) (by cbv) ?_
 refine rz hA 2 ?_
 refine gs (gr (rn hA 2 ?_))
 obtain ⟨e9, l1, hc4⟩ : ∃ (e9 : RR), e9 = List.map eInt u7 ∧ Real Tryz.prog 60 [.sl 1 v3] (.ow 1 e9) := ⟨_, rfl, by subst q8; exact r_laws_toIntS A hA u7 (fun k h => hk k (by simp only [zsStore, List.mem_append]; simp only [h, true_or, or_true]))⟩
 have y1 := rlen_map hA l1
 refine ops_callV rfl rfl (by cbv) (by cbv) hc4 (.inr rfl) (by cbv) ?_
 refine rz hA 2 ?_
 refine gx hA 2 ?_
 refine go_ret ⟨_, by cbv, ?_⟩
 show _ = (PV.agg [.ow 1 c8, .ow 2 e8, .ii i7, .ow 4 o8, .ii d8, .ii d9, .ii g0, .ii c6, .ow 1 e9])
 subst k6 o0 u3 l1
 rfl
theorem r_laws_toBring (A : Alg) (hA : A = std) (x : GBring) (hk : ∀ k ∈ zsBring x, k ≤ 1048576) : Real Tryz.prog 107 [.agg (eBring x)] (.agg (eoBring x)) := by
 obtain ⟨i5, y7, z7, w2⟩ := x
 obtain ⟨y6, u5⟩ := nm (z7.map eString)
 have F3 := rlen_map hA u5
 obtain ⟨w9, t0⟩ := nm (w2.map eString)
 have E9 := rlen_map hA t0
 refine real_args (args' := [.agg [.ii i5, .str y7, .sl 1 y6, .sl 1 w9]]) (by subst u5 t0; rfl) ?_
 refine real tyOk Tryz.func107 (by kernel_rfl) (afun_of rfl ?_)
 refine gx hA 2 ?_
 refine gx hA 1 ?_
 refine gx hA 4 ?_
 refine gx hA 4 ?_
 refine gs (gr (rn hA 2 ?_))
 obtain ⟨m7, s4, hc2⟩ : ∃ (m7 : RR), m7 = List.map eString z7 ∧ Real Tryz.prog 145 [.sl 1 y6] (.ow 1 m7) := ⟨_, rfl, by subst u5; exact r_laws_toStringS A hA z7 (fun k h => hk k (by simp only [zsBring, List.mem_append]; simp only [h, true_or, or_true]))⟩
 have D1 := rlen_map hA s4
 refine ops_callV rfl rfl (by cbv) (by cbv) hc2 (.inr rfl) (by cbv) ?_
 refine rz hA 2 ?_
 refine gs (gr (rn hA 2 ?_))
 obtain ⟨m6, s9, hc4⟩ : ∃ (m6 : RR), m6 = List.map eString w2 ∧ Real Tryz.prog 145 [.sl 1 w9] (.ow 1 m6) := ⟨_, rfl, by subst t0; exact r_laws_toStringS A hA w2 (fun k h => hk k (by simp only [zsBring, List.mem_append]; simp only [h, true_or, or_true]))⟩
 have D5 := rlen_map hA s9
 refine ops_callV rfl rfl (by cbv) (by cbv) hc4 (.inr rfl) (by cbv) ?_
 refine rz hA 2 ?_
 refine gx hA 2 ?_
 refine go_ret ⟨_, by cbv, ?_⟩
 show _ = (PV.agg [.ii i5, .str y7, .ow 1 m7, .ow 1 m6])
 subst s4 s9
 rfl
theorem r_laws_toMail (A : Alg) (hA : A = std) (x : GMail) (hk : ∀ k ∈ zsMail x, k ≤ 1048576) : Real Tryz.prog 183 [.agg (eMail x)] (.agg (eoMail x)) := by
 obtain ⟨u2, q4, l2⟩ := x
 refine real_args (args' := [.agg [.ii u2, .ii q4, .str l2]]) (by rfl) ?_
 refine real tyOk Tryz.func183 (by kernel_rfl) (afun_of rfl ?_)
 refine gx hA 2 ?_
 refine gx hA 1 ?_
 refine gx hA 4 ?_
 refine gx hA 4 ?_
 refine gx hA 4 ?_
 refine gx hA 2 ?_
 refine go_ret ⟨_, by cbv, ?_⟩
 show _ = (PV.agg [.ii u2, .ii q4, .str l2])
 rfl
def S148_1 (p0 : RR) (p1 : Int) (p2 : RR) : St := { sl := [.sl 3 p0, .bad, .bad, .own 7, .ii p1, .bad, .bad, .bad, .bad, .bad, .bad, .bad, .bad, .bad, .bad, .bad, .bad, .bad, .bad, .bad, .bad, .bad, .bad], bl := [(7, ⟨.arr, 3, p2⟩)] }
theorem r_laws_toMailS (A : Alg) (hA : A = std) (xs : List GMail) (hk : ∀ k ∈ zsMailS xs, k ≤ 1048576) : Real Tryz.prog 148 [.sl 3 (List.map eMail xs)] (.ow 3 (List.map eoMail xs)) := by
 obtain ⟨a0, a2⟩ := nm (xs.map eMail)
 have d4 := rlen_map hA a2
 refine real_args (args' := [.sl 3 a0]) (by subst a2; rfl) ?_
 have hlen : List.length xs ≤ 1048576 := hk _ (by simp [zsMailS])
 refine real tyOk Tryz.func148 (by kernel_rfl) (afun_of rfl ?_)
 refine gx hA 1 ?_
 refine gs (gr (rn hA 2 ?_))
 obtain ⟨rm, hrm⟩ := nm (List.replicate (Int.toNat (A.rlen a0)) [.ii 0, .ii 0, .str ByteArray.empty] : RR)
 have hn0 : (0 : Int) ≤ A.rlen a0 := by omega
 have hmax : A.rlen a0 * 32 ≤ 140737488355328 := by omega
 refine ops_step rfl rfl (mk_arr rfl rfl rfl rfl rfl rfl hn0 hmax (by decide) (by decide) rfl hrm) ?_
 refine rz hA 1 ?_
 refine gs (gx hA 1 ?_)
 refine go_block ?_
 refine go_loopE (fun σ m => ∃ (i : Nat) (ro : RR) (n4 : Int), σ = (S148_1 a0 n4 ro) ∧ (n4 = (i : Int) ∧ i ≤ List.length xs ∧ ro = fill eoMail [.ii 0, .ii 0, .str ByteArray.empty] xs i) ∧ m = List.length xs - i) _ [] [0, 3, 4] [7] (S148_1 a0 0 rm) rfl (by cbv) ⟨0, rm, 0, rfl, ?_, rfl⟩ (fun σ m hI => ?_)
 ·
  exact ⟨rfl, Nat.zero_le _, by rw [hrm, fill_zero, d4]; rfl⟩
 obtain ⟨i, ro, n4, rfl, ⟨hn4, hi, hro⟩, rfl⟩ := hI
 refine gs (gx hA 4 ?_)
 refine go_cond rfl (fun c1 => ?_) (fun c1 => ?_)
 ·
  have ec1 : n4 < (A.rlen a0) := lss_t hA c1
  refine gk (gs ?_)
  refine go_block ?_
  refine gr (rn hA 4 ?_)
  have g9 : (0 : Int) ≤ n4 := by
   omega
  have i3 : (Int.toNat n4) < List.length xs := by
   omega
  obtain ⟨x2, hx2⟩ : ∃ x, (xs)[(Int.toNat n4)]? = some x := ⟨_, List.getElem?_eq_getElem i3⟩
  have m0 := List.mem_of_getElem? hx2
  obtain ⟨p5, k2, b2⟩ := x2
  have i4 : a0[(Int.toNat n4)]? = some [.ii p5, .ii k2, .str b2] := by
   exact map_at eMail a2 hx2
  have hkx := fun (k : Nat) h => hk k (List.mem_cons_of_mem _ (List.mem_flatMap.2 ⟨_, m0, h⟩))
  refine ops_step rfl rfl (idx_sl rfl rfl rfl rfl rfl g9 rfl i4) ?_
  refine rn hA 1 ?_
  have hc4 : Real Tryz.prog 183 [.agg [.ii p5, .ii k2, .str b2]] (.agg [.ii p5, .ii k2, .str b2]) := by exact r_laws_toMail A hA (⟨p5, k2, b2⟩ : GMail) hkx
  refine ops_callV rfl rfl (by cbv) (by cbv) hc4 (.inr rfl) (by cbv) ?_
  have hlo : n4 < (List.length ro : Int) := by
   rw [hro, fill_len _ _ _ hi]; omega
  refine ops_step rfl rfl (idx_own rfl rfl rfl rfl rfl rfl (by omega) hlo rfl) ?_
  have a1 := hx2
  rw [hn4] at a1
  have a1 : xs[i]? = some _ := a1
  have hz : ro[Int.toNat n4]? = some [.ii 0, .ii 0, .str ByteArray.empty] := by
   rw [hro, hn4]; exact fill_at _ _ _ (by omega)
  have hset : fill eoMail [.ii 0, .ii 0, .str ByteArray.empty] xs (i + 1) = ro.set (Int.toNat n4) [.ii p5, .ii k2, .str b2] := by
   rw [hro, hn4]; exact (fill_set eoMail _ xs a1).symm
  obtain ⟨ro2, b6⟩ : ∃ r, r = fill eoMail [.ii 0, .ii 0, .str ByteArray.empty] xs (i + 1) := ⟨_, rfl⟩
  rw [← b6] at hset
  refine ops_step rfl rfl (sto_arr (r := [.ii 0, .ii 0, .str ByteArray.empty]) (cs := [.ii p5, .ii k2, .str b2]) rfl rfl rfl rfl rfl ⟨_, _, rfl⟩ rfl rfl hz rfl hset) ?_
  refine od ?_
  refine gy hA 3 ?_
  refine ⟨(S148_1 a0 (A.num .add .i64 n4 1) ro2), List.length xs - (i + 1), ?_, by cbv, i + 1, ro2, (A.num .add .i64 n4 1), rfl, ?_, rfl⟩
  ·
   omega
  exact ⟨by rw [add_i64 hA (by omega) (by omega)]; omega, by omega, b6⟩
 have ec1 : (A.rlen a0) ≤ n4 := lss_f hA c1
 refine go_exit ⟨fun _ => ?_, fun h => absurd rfl h⟩
 refine gx hA 2 ?_
 refine go_ret ⟨_, by cbv, ?_⟩
 show _ = (PV.ow 3 ro)
 refine congrArg (PV.ow 3) ?_
 rw [hro, fill_all _ _ _ (by omega)]
def S149_1 (p0 : RR) (p1 : Int) (p2 : RR) : St := { sl := [.sl 1 p0, .bad, .bad, .own 7, .ii p1, .bad, .bad, .bad, .bad, .bad, .bad, .bad, .bad, .bad, .bad, .bad, .bad, .bad, .bad, .bad, .bad, .bad], bl := [(7, ⟨.arr, 1, p2⟩)] }
theorem r_laws_toBoolS (A : Alg) (hA : A = std) (xs : List Bool) (hk : ∀ k ∈ zsBoolS xs, k ≤ 1048576) : Real Tryz.prog 149 [.sl 1 (List.map eBool xs)] (.ow 1 (List.map eBool xs)) := by
 obtain ⟨a0, a2⟩ := nm (xs.map eBool)
 have d4 := rlen_map hA a2
 refine real_args (args' := [.sl 1 a0]) (by subst a2; rfl) ?_
 have hlen : List.length xs ≤ 1048576 := hk _ (by simp [zsBoolS])
 refine real tyOk Tryz.func149 (by kernel_rfl) (afun_of rfl ?_)
 refine gx hA 1 ?_
 refine gs (gr (rn hA 2 ?_))
 obtain ⟨rm, hrm⟩ := nm (List.replicate (Int.toNat (A.rlen a0)) [.bool false] : RR)
 have hn0 : (0 : Int) ≤ A.rlen a0 := by omega
 have hmax : A.rlen a0 * 1 ≤ 140737488355328 := by omega
 refine ops_step rfl rfl (mk_arr rfl rfl rfl rfl rfl rfl hn0 hmax (by decide) (by decide) rfl hrm) ?_
 refine rz hA 1 ?_
 refine gs (gx hA 1 ?_)
 refine go_block ?_
 refine go_loopE (fun σ m => ∃ (i : Nat) (ro : RR) (n4 : Int), σ = (S149_1 a0 n4 ro) ∧ (n4 = (i : Int) ∧ i ≤ List.length xs ∧ ro = fill eBool [.bool false] xs i) ∧ m = List.length xs - i) _ [] [0, 3, 4] [7] (S149_1 a0 0 rm) rfl (by cbv) ⟨0, rm, 0, rfl, ?_, rfl⟩ (fun σ m hI => ?_)
 ·
  exact ⟨rfl, Nat.zero_le _, by rw [hrm, fill_zero, d4]; rfl⟩
 obtain ⟨i, ro, n4, rfl, ⟨hn4, hi, hro⟩, rfl⟩ := hI
 refine gs (gx hA 4 ?_)
 refine go_cond rfl (fun c1 => ?_) (fun c1 => ?_)
 ·
  have ec1 : n4 < (A.rlen a0) := lss_t hA c1
  refine gk (gs ?_)
  refine go_block ?_
  refine gr (rn hA 4 ?_)
  have g9 : (0 : Int) ≤ n4 := by
   omega
  have i3 : (Int.toNat n4) < List.length xs := by
   omega
  obtain ⟨x2, hx2⟩ : ∃ x, (xs)[(Int.toNat n4)]? = some x := ⟨_, List.getElem?_eq_getElem i3⟩
  have m0 := List.mem_of_getElem? hx2
  have i4 : a0[(Int.toNat n4)]? = some [.bool x2] := by
   exact map_at eBool a2 hx2
  refine ops_step rfl rfl (idx_sl rfl rfl rfl rfl rfl g9 rfl i4) ?_
  refine rn hA 1 ?_
  have hlo : n4 < (List.length ro : Int) := by
   rw [hro, fill_len _ _ _ hi]; omega
  refine ops_step rfl rfl (idx_own rfl rfl rfl rfl rfl rfl (by omega) hlo rfl) ?_
  have a1 := hx2
  rw [hn4] at a1
  have a1 : xs[i]? = some _ := a1
  have hz : ro[Int.toNat n4]? = some [.bool false] := by
   rw [hro, hn4]; exact fill_at _ _ _ (by omega)
  have hset : fill eBool [.bool false] xs (i + 1) = ro.set (Int.toNat n4) [.bool x2] := by
   rw [hro, hn4]; exact (fill_set eBool _ xs a1).symm
  obtain ⟨ro2, b6⟩ : ∃ r, r = fill eBool [.bool false] xs (i + 1) := ⟨_, rfl⟩
  rw [← b6] at hset
  refine ops_step rfl rfl (sto_arr (r := [.bool false]) (cs := [.bool x2]) rfl rfl rfl rfl rfl ⟨_, _, rfl⟩ rfl rfl hz rfl hset) ?_
  refine od ?_
  refine gy hA 3 ?_
  refine ⟨(S149_1 a0 (A.num .add .i64 n4 1) ro2), List.length xs - (i + 1), ?_, by cbv, i + 1, ro2, (A.num .add .i64 n4 1), rfl, ?_, rfl⟩
  ·
   omega
  exact ⟨by rw [add_i64 hA (by omega) (by omega)]; omega, by omega, b6⟩
 have ec1 : (A.rlen a0) ≤ n4 := lss_f hA c1
 refine go_exit ⟨fun _ => ?_, fun h => absurd rfl h⟩
 refine gx hA 2 ?_
 refine go_ret ⟨_, by cbv, ?_⟩
 show _ = (PV.ow 1 ro)
 refine congrArg (PV.ow 1) ?_
 rw [hro, fill_all _ _ _ (by omega)]
theorem r_laws_toFetch (A : Alg) (hA : A = std) (x : GFetch) (hk : ∀ k ∈ zsFetch x, k ≤ 1048576) : Real Tryz.prog 108 [.agg (eFetch x)] (.agg (eoFetch x)) := by
 obtain ⟨i5, l0, u9, w8⟩ := x
 obtain ⟨v7, r0⟩ := nm (u9.map eMail)
 have E5 := rlen_map hA r0
 obtain ⟨w6, s6⟩ := nm (w8.map eBool)
 have F2 := rlen_map hA s6
 refine real_args (args' := [.agg [.ii i5, .str l0, .sl 3 v7, .sl 1 w6]]) (by subst r0 s6; rfl) ?_
 refine real tyOk Tryz.func108 (by kernel_rfl) (afun_of rfl ?_)
 refine gx hA 2 ?_
 refine gx hA 1 ?_
 refine gx hA 4 ?_
 refine gx hA 4 ?_
 refine gs (gr (rn hA 2 ?_))
 obtain ⟨m7, s4, hc2⟩ : ∃ (m7 : RR), m7 = List.map eoMail u9 ∧ Real Tryz.prog 148 [.sl 3 v7] (.ow 3 m7) := ⟨_, rfl, by subst r0; exact r_laws_toMailS A hA u9 (fun k h => hk k (by simp only [zsFetch, List.mem_append]; simp only [h, true_or, or_true]))⟩
 have D1 := rlen_map hA s4
 refine ops_callV rfl rfl (by cbv) (by cbv) hc2 (.inr rfl) (by cbv) ?_
 refine rz hA 2 ?_
 refine gs (gr (rn hA 2 ?_))
 obtain ⟨m6, s9, hc4⟩ : ∃ (m6 : RR), m6 = List.map eBool w8 ∧ Real Tryz.prog 149 [.sl 1 w6] (.ow 1 m6) := ⟨_, rfl, by subst s6; exact r_laws_toBoolS A hA w8 (fun k h => hk k (by simp only [zsFetch, List.mem_append]; simp only [h, true_or, or_true]))⟩
 have D5 := rlen_map hA s9
 refine ops_callV rfl rfl (by cbv) (by cbv) hc4 (.inr rfl) (by cbv) ?_
 refine rz hA 2 ?_
 refine gx hA 2 ?_
 refine go_ret ⟨_, by cbv, ?_⟩
 show _ = (PV.agg [.ii i5, .str l0, .ow 3 m7, .ow 1 m6])
 subst s4 s9
 rfl
theorem r_laws_toLook (A : Alg) (hA : A = std) (x : GLook) (hk : ∀ k ∈ zsLook x, k ≤ 1048576) : Real Tryz.prog 109 [.agg (eLook x)] (.agg (eoLook x)) := by
 obtain ⟨i5, l0, B9, p8, w7⟩ := x
 obtain ⟨w3, s0⟩ := nm (w7.map eInt)
 have F1 := rlen_map hA s0
 refine real_args (args' := [.agg [.ii i5, .str l0, .str B9, .ii p8, .sl 1 w3]]) (by subst s0; rfl) ?_
 refine real tyOk Tryz.func109 (by kernel_rfl) (afun_of rfl ?_)
 refine gx hA 2 ?_
 refine gx hA 1 ?_
 refine gx hA 4 ?_
 refine gx hA 4 ?_
 refine gx hA 4 ?_
 refine gx hA 4 ?_
 refine gs (gr (rn hA 2 ?_))
 obtain ⟨v9, y8, hc2⟩ : ∃ (v9 : RR), v9 = List.map eInt w7 ∧ Real Tryz.prog 60 [.sl 1 w3] (.ow 1 v9) := ⟨_, rfl, by subst s0; exact r_laws_toIntS A hA w7 (fun k h => hk k (by simp only [zsLook, List.mem_append]; simp only [h, true_or, or_true]))⟩
 have F4 := rlen_map hA y8
 refine ops_callV rfl rfl (by cbv) (by cbv) hc2 (.inr rfl) (by cbv) ?_
 refine rz hA 2 ?_
 refine gx hA 2 ?_
 refine go_ret ⟨_, by cbv, ?_⟩
 show _ = (PV.agg [.ii i5, .str l0, .str B9, .ii p8, .ow 1 v9])
 subst y8
 rfl
theorem r_laws_toSession (A : Alg) (hA : A = std) (x : GSession) (hk : ∀ k ∈ zsSession x, k ≤ 1048576) : Real Tryz.prog 61 [.agg (eSession x)] (.agg (eoSession x)) := by
 obtain ⟨s5, D4, B7, y4, ⟨d5, f5, r1, n6⟩, ⟨d6, f4, l8, n7⟩, ⟨f3, g1, j6, f0, o9⟩⟩ := x
 obtain ⟨s3, m1⟩ := nm (r1.map eString)
 have C7 := rlen_map hA m1
 obtain ⟨q6, j3⟩ := nm (n6.map eString)
 have B1 := rlen_map hA j3
 obtain ⟨o7, i2⟩ := nm (l8.map eMail)
 have z8 := rlen_map hA i2
 obtain ⟨p6, j2⟩ := nm (n7.map eBool)
 have B4 := rlen_map hA j2
 obtain ⟨r7, k4⟩ := nm (o9.map eInt)
 have C3 := rlen_map hA k4
 refine real_args (args' := [.agg [.ii s5, .str D4, .str B7, .bool y4, .ii d5, .str f5, .sl 1 s3, .sl 1 q6, .ii d6, .str f4, .sl 3 o7, .sl 1 p6, .ii f3, .str g1, .str j6, .ii f0, .sl 1 r7]]) (by subst m1 j3 i2 j2 k4; rfl) ?_
 refine real tyOk Tryz.func61 (by kernel_rfl) (afun_of rfl ?_)
 refine gx hA 2 ?_
 refine gx hA 1 ?_
 refine gx hA 4 ?_
 refine gx hA 4 ?_
 refine gx hA 4 ?_
 refine gx hA 4 ?_
 refine gs (gr (rn hA 2 ?_))
 obtain ⟨r3, n0, v4, u0, hc2⟩ : ∃ (r3 : RR) (n0 : RR), r3 = List.map eString r1 ∧ n0 = List.map eString n6 ∧ Real Tryz.prog 107 [.agg [.ii d5, .str f5, .sl 1 s3, .sl 1 q6]] (.agg [.ii d5, .str f5, .ow 1 r3, .ow 1 n0]) := ⟨_, _, rfl, rfl, by subst m1 j3; exact r_laws_toBring A hA (⟨d5, f5, r1, n6⟩ : GBring) (fun k h => hk k (by simp only [zsSession, List.mem_append]; simp only [h, true_or, or_true]))⟩
 have E8 := rlen_map hA v4
 have D9 := rlen_map hA u0
 refine ops_callV rfl rfl (by cbv) (by cbv) hc2 (.inr rfl) (by cbv) ?_
 refine rz hA 2 ?_
 refine gs (gr (rn hA 2 ?_))
 obtain ⟨k5, m5, r9, t6, hc4⟩ : ∃ (k5 : RR) (m5 : RR), k5 = List.map eoMail l8 ∧ m5 = List.map eBool n7 ∧ Real Tryz.prog 108 [.agg [.ii d6, .str f4, .sl 3 o7, .sl 1 p6]] (.agg [.ii d6, .str f4, .ow 3 k5, .ow 1 m5]) := ⟨_, _, rfl, rfl, by subst i2 j2; exact r_laws_toFetch A hA (⟨d6, f4, l8, n7⟩ : GFetch) (fun k h => hk k (by simp only [zsSession, List.mem_append]; simp only [h, true_or, or_true]))⟩
 have D2 := rlen_map hA r9
 have D7 := rlen_map hA t6
 refine ops_callV rfl rfl (by cbv) (by cbv) hc4 (.inr rfl) (by cbv) ?_
 refine rz hA 2 ?_
 refine gs (gr (rn hA 2 ?_))
 obtain ⟨m4, t9, hc6⟩ : ∃ (m4 : RR), m4 = List.map eInt o9 ∧ Real Tryz.prog 109 [.agg [.ii f3, .str g1, .str j6, .ii f0, .sl 1 r7]] (.agg [.ii f3, .str g1, .str j6, .ii f0, .ow 1 m4]) := ⟨_, rfl, by subst k4; exact r_laws_toLook A hA (⟨f3, g1, j6, f0, o9⟩ : GLook) (fun k h => hk k (by simp only [zsSession, List.mem_append]; simp only [h, true_or, or_true]))⟩
 have E0 := rlen_map hA t9
 refine ops_callV rfl rfl (by cbv) (by cbv) hc6 (.inr rfl) (by cbv) ?_
 refine rz hA 2 ?_
 refine gx hA 2 ?_
 refine go_ret ⟨_, by cbv, ?_⟩
 show _ = (PV.agg [.ii s5, .str D4, .str B7, .bool y4, .ii d5, .str f5, .ow 1 r3, .ow 1 n0, .ii d6, .str f4, .ow 3 k5, .ow 1 m5, .ii f3, .str g1, .str j6, .ii f0, .ow 1 m4])
 subst v4 u0 r9 t6 t9
 rfl
def S31_1 (p0 : RR) (p1 : Int) (p2 : RR) : St := { sl := [.sl 17 p0, .bad, .bad, .own 7, .ii p1, .bad, .bad, .bad, .bad, .bad, .bad, .bad, .bad, .bad, .bad, .bad, .bad, .bad, .bad, .bad, .bad, .bad, .bad], bl := [(7, ⟨.arr, 17, p2⟩)] }
theorem r_laws_toSessionS (A : Alg) (hA : A = std) (xs : List GSession) (hk : ∀ k ∈ zsSessionS xs, k ≤ 1048576) : Real Tryz.prog 31 [.sl 17 (List.map eSession xs)] (.ow 17 (List.map eoSession xs)) := by
 obtain ⟨a0, a2⟩ := nm (xs.map eSession)
 have d4 := rlen_map hA a2
 refine real_args (args' := [.sl 17 a0]) (by subst a2; rfl) ?_
 have hlen : List.length xs ≤ 1048576 := hk _ (by simp [zsSessionS])
 refine real tyOk Tryz.func31 (by kernel_rfl) (afun_of rfl ?_)
 refine gx hA 1 ?_
 refine gs (gr (rn hA 2 ?_))
 obtain ⟨rm, hrm⟩ := nm (List.replicate (Int.toNat (A.rlen a0)) [.ii 0, .str ByteArray.empty, .str ByteArray.empty, .bool false, .ii 0, .str ByteArray.empty, .zc, .zc, .ii 0, .str ByteArray.empty, .zc, .zc, .ii 0, .str ByteArray.empty, .str ByteArray.empty, .ii 0, .zc] : RR)
 have hn0 : (0 : Int) ≤ A.rlen a0 := by omega
 have hmax : A.rlen a0 * 264 ≤ 140737488355328 := by omega
 refine ops_step rfl rfl (mk_arr rfl rfl rfl rfl rfl rfl hn0 hmax (by decide) (by decide) rfl hrm) ?_
 refine rz hA 1 ?_
 refine gs (gx hA 1 ?_)
 refine go_block ?_
 refine go_loopE (fun σ m => ∃ (i : Nat) (ro : RR) (n4 : Int), σ = (S31_1 a0 n4 ro) ∧ (n4 = (i : Int) ∧ i ≤ List.length xs ∧ ro = fill eoSession [.ii 0, .str ByteArray.empty, .str ByteArray.empty, .bool false, .ii 0, .str ByteArray.empty, .zc, .zc, .ii 0, .str ByteArray.empty, .zc, .zc, .ii 0, .str ByteArray.empty, .str ByteArray.empty, .ii 0, .zc] xs i) ∧ m = List.length xs - i) _ [] [0, 3, 4] [7] (S31_1 a0 0 rm) rfl (by cbv) ⟨0, rm, 0, rfl, ?_, rfl⟩ (fun σ m hI => ?_)
 ·
  exact ⟨rfl, Nat.zero_le _, by rw [hrm, fill_zero, d4]; rfl⟩
 obtain ⟨i, ro, n4, rfl, ⟨hn4, hi, hro⟩, rfl⟩ := hI
 refine gs (gx hA 4 ?_)
 refine go_cond rfl (fun c1 => ?_) (fun c1 => ?_)
 ·
  have ec1 : n4 < (A.rlen a0) := lss_t hA c1
  refine gk (gs ?_)
  refine go_block ?_
  refine gr (rn hA 4 ?_)
  have g9 : (0 : Int) ≤ n4 := by
   omega
  have i3 : (Int.toNat n4) < List.length xs := by
   omega
  obtain ⟨x2, hx2⟩ : ∃ x, (xs)[(Int.toNat n4)]? = some x := ⟨_, List.getElem?_eq_getElem i3⟩
  have m0 := List.mem_of_getElem? hx2
  obtain ⟨n2, t2, q0, n1, ⟨b3, c2, p4, l6⟩, ⟨b1, c4, k0, l9⟩, ⟨c3, d3, e3, c0, o1⟩⟩ := x2
  obtain ⟨r5, k3⟩ := nm (p4.map eString)
  have C4 := rlen_map hA k3
  obtain ⟨o6, g6⟩ := nm (l6.map eString)
  have B0 := rlen_map hA g6
  obtain ⟨o2, f7⟩ := nm (k0.map eMail)
  have z3 := rlen_map hA f7
  obtain ⟨o3, g7⟩ := nm (l9.map eBool)
  have z9 := rlen_map hA g7
  obtain ⟨q3, i9⟩ := nm (o1.map eInt)
  have B3 := rlen_map hA i9
  have i4 : a0[(Int.toNat n4)]? = some [.ii n2, .str t2, .str q0, .bool n1, .ii b3, .str c2, .sl 1 r5, .sl 1 o6, .ii b1, .str c4, .sl 3 o2, .sl 1 o3, .ii c3, .str d3, .str e3, .ii c0, .sl 1 q3] := by
   subst k3 g6 f7 g7 i9; exact map_at eSession a2 hx2
  have hkx := fun (k : Nat) h => hk k (List.mem_cons_of_mem _ (List.mem_flatMap.2 ⟨_, m0, h⟩))
  refine ops_step rfl rfl (idx_sl rfl rfl rfl rfl rfl g9 rfl i4) ?_
  refine rn hA 1 ?_
  obtain ⟨d2, b4, a9, b7, c5, o5, m2, k8, m3, n9, hc4⟩ : ∃ (d2 : RR) (b4 : RR) (a9 : RR) (b7 : RR) (c5 : RR), d2 = List.map eString p4 ∧ b4 = List.map eString l6 ∧ a9 = List.map eoMail k0 ∧ b7 = List.map eBool l9 ∧ c5 = List.map eInt o1 ∧ Real Tryz.prog 61 [.agg [.ii n2, .str t2, .str q0, .bool n1, .ii b3, .str c2, .sl 1 r5, .sl 1 o6, .ii b1, .str c4, .sl 3 o2, .sl 1 o3, .ii c3, .str d3, .str e3, .ii c0, .sl 1 q3]] (.agg [.ii n2, .str t2, .str q0, .bool n1, .ii b3, .str c2, .ow 1 d2, .ow 1 b4, .ii b1, .str c4, .ow 3 a9, .ow 1 b7, .ii c3, .str d3, .str e3, .ii c0, .ow 1 c5]) := ⟨_, _, _, _, _, rfl, rfl, rfl, rfl, rfl, by subst k3 g6 f7 g7 i9; exact r_laws_toSession A hA (⟨n2, t2, q0, n1, ⟨b3, c2, p4, l6⟩, ⟨b1, c4, k0, l9⟩, ⟨c3, d3, e3, c0, o1⟩⟩ : GSession) hkx⟩
  have B5 := rlen_map hA o5
  have z1 := rlen_map hA m2
  have y5 := rlen_map hA k8
  have z2 := rlen_map hA m3
  have z6 := rlen_map hA n9
  refine ops_callV rfl rfl (by cbv) (by cbv) hc4 (.inr rfl) (by cbv) ?_
  have hlo : n4 < (List.length ro : Int) := by
   rw [hro, fill_len _ _ _ hi]; omega
  refine ops_step rfl rfl (idx_own rfl rfl rfl rfl rfl rfl (by omega) hlo rfl) ?_
  have a1 := hx2
  rw [hn4] at a1
  have a1 : xs[i]? = some _ := a1
  have hz : ro[Int.toNat n4]? = some [.ii 0, .str ByteArray.empty, .str ByteArray.empty, .bool false, .ii 0, .str ByteArray.empty, .zc, .zc, .ii 0, .str ByteArray.empty, .zc, .zc, .ii 0, .str ByteArray.empty, .str ByteArray.empty, .ii 0, .zc] := by
   rw [hro, hn4]; exact fill_at _ _ _ (by omega)
  have hset : fill eoSession [.ii 0, .str ByteArray.empty, .str ByteArray.empty, .bool false, .ii 0, .str ByteArray.empty, .zc, .zc, .ii 0, .str ByteArray.empty, .zc, .zc, .ii 0, .str ByteArray.empty, .str ByteArray.empty, .ii 0, .zc] xs (i + 1) = ro.set (Int.toNat n4) [.ii n2, .str t2, .str q0, .bool n1, .ii b3, .str c2, .ow 1 d2, .ow 1 b4, .ii b1, .str c4, .ow 3 a9, .ow 1 b7, .ii c3, .str d3, .str e3, .ii c0, .ow 1 c5] := by
   rw [hro, hn4]; subst o5 m2 k8 m3 n9; exact (fill_set eoSession _ xs a1).symm
  obtain ⟨ro2, b6⟩ : ∃ r, r = fill eoSession [.ii 0, .str ByteArray.empty, .str ByteArray.empty, .bool false, .ii 0, .str ByteArray.empty, .zc, .zc, .ii 0, .str ByteArray.empty, .zc, .zc, .ii 0, .str ByteArray.empty, .str ByteArray.empty, .ii 0, .zc] xs (i + 1) := ⟨_, rfl⟩
  rw [← b6] at hset
  refine ops_step rfl rfl (sto_arr (r := [.ii 0, .str ByteArray.empty, .str ByteArray.empty, .bool false, .ii 0, .str ByteArray.empty, .zc, .zc, .ii 0, .str ByteArray.empty, .zc, .zc, .ii 0, .str ByteArray.empty, .str ByteArray.empty, .ii 0, .zc]) (cs := [.ii n2, .str t2, .str q0, .bool n1, .ii b3, .str c2, .ow 1 d2, .ow 1 b4, .ii b1, .str c4, .ow 3 a9, .ow 1 b7, .ii c3, .str d3, .str e3, .ii c0, .ow 1 c5]) rfl rfl rfl rfl rfl ⟨_, _, rfl⟩ rfl rfl hz rfl hset) ?_
  refine od ?_
  refine gy hA 3 ?_
  refine ⟨(S31_1 a0 (A.num .add .i64 n4 1) ro2), List.length xs - (i + 1), ?_, by cbv, i + 1, ro2, (A.num .add .i64 n4 1), rfl, ?_, rfl⟩
  ·
   omega
  exact ⟨by rw [add_i64 hA (by omega) (by omega)]; omega, by omega, b6⟩
 have ec1 : (A.rlen a0) ≤ n4 := lss_f hA c1
 refine go_exit ⟨fun _ => ?_, fun h => absurd rfl h⟩
 refine gx hA 2 ?_
 refine go_ret ⟨_, by cbv, ?_⟩
 show _ = (PV.ow 17 ro)
 refine congrArg (PV.ow 17) ?_
 rw [hro, fill_all _ _ _ (by omega)]
theorem r_laws_toServer (A : Alg) (hA : A = std) (x : GServer) (hk : ∀ k ∈ zsServer x, k ≤ 1048576) : Real Tryz.prog 9 [.agg (eServer x)] (.agg (eoServer x)) := by
 obtain ⟨⟨⟨⟨b8, c7⟩, b5, i1, a5, a4, a8, a3⟩, l4⟩, q7⟩ := x
 obtain ⟨d7, a6⟩ := nm (b8.map eString)
 have v1 := rlen_map hA a6
 obtain ⟨f2, b0⟩ := nm (c7.map eWrite)
 have w1 := rlen_map hA b0
 obtain ⟨l3, e7⟩ := nm (i1.map eSeg)
 have x6 := rlen_map hA e7
 obtain ⟨o4, g8⟩ := nm (l4.map eInt)
 have z4 := rlen_map hA g8
 obtain ⟨s2, l7⟩ := nm (q7.map eSession)
 have C5 := rlen_map hA l7
 refine real_args (args' := [.agg [.sl 1 d7, .sl 2 f2, .ii b5, .sl 4 l3, .ii a5, .ii a4, .ii a8, .ii a3, .sl 1 o4, .sl 17 s2]]) (by subst a6 b0 e7 g8 l7; rfl) ?_
 refine real tyOk Tryz.func9 (by kernel_rfl) (afun_of rfl ?_)
 refine gx hA 2 ?_
 refine gx hA 1 ?_
 refine gs (gr (rn hA 2 ?_))
 obtain ⟨a7, b9, g5, m9, f9, j5, p7, t7, hc2⟩ : ∃ (a7 : RR) (b9 : RR) (g5 : RR) (m9 : RR), a7 = List.map eString b8 ∧ b9 = List.map eoWrite c7 ∧ g5 = List.map eoSeg i1 ∧ m9 = List.map eInt l4 ∧ Real Tryz.prog 30 [.agg [.sl 1 d7, .sl 2 f2, .ii b5, .sl 4 l3, .ii a5, .ii a4, .ii a8, .ii a3, .sl 1 o4]] (.agg [.ow 1 a7, .ow 2 b9, .ii b5, .ow 4 g5, .ii a5, .ii a4, .ii a8, .ii a3, .ow 1 m9]) := ⟨_, _, _, _, rfl, rfl, rfl, rfl, by subst a6 b0 e7 g8; exact r_laws_toStore A hA (⟨⟨⟨b8, c7⟩, b5, i1, a5, a4, a8, a3⟩, l4⟩ : GStore) (fun k h => hk k (by simp only [zsServer, List.mem_append]; simp only [h, true_or, or_true]))⟩
 have x0 := rlen_map hA f9
 have x5 := rlen_map hA j5
 have C2 := rlen_map hA p7
 have E2 := rlen_map hA t7
 refine ops_callV rfl rfl (by cbv) (by cbv) hc2 (.inr rfl) (by cbv) ?_
 refine rz hA 2 ?_
 refine gs (gr (rn hA 2 ?_))
 obtain ⟨e9, l1, hc4⟩ : ∃ (e9 : RR), e9 = List.map eoSession q7 ∧ Real Tryz.prog 31 [.sl 17 s2] (.ow 17 e9) := ⟨_, rfl, by subst l7; exact r_laws_toSessionS A hA q7 (fun k h => hk k (by simp only [zsServer, List.mem_append]; simp only [h, true_or, or_true]))⟩
 have y1 := rlen_map hA l1
 refine ops_callV rfl rfl (by cbv) (by cbv) hc4 (.inr rfl) (by cbv) ?_
 refine rz hA 2 ?_
 refine gx hA 2 ?_
 refine go_ret ⟨_, by cbv, ?_⟩
 show _ = (PV.agg [.ow 1 a7, .ow 2 b9, .ii b5, .ow 4 g5, .ii a5, .ii a4, .ii a8, .ii a3, .ow 1 m9, .ow 17 e9])
 subst f9 j5 p7 t7 l1
 rfl
end Go.Av

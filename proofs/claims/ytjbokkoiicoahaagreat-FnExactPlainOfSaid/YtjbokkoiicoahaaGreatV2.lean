/- Walks: to of servers. -/
import Derived.Test.YtjbokkoiicoahaaGreatTy
namespace Go.Av
open Go Go.Proofs
set_option maxRecDepth 100000
set_option maxHeartbeats 4000000
set_option linter.unusedVariables false
set_option linter.unusedSimpArgs false
def S145_1 (p0 : RR) (p1 : Int) (p2 : RR) : St := { sl := [.sl 1 p0, .bad, .bad, .own 7, .ii p1, .bad, .bad, .bad, .bad, .bad, .bad, .bad, .bad, .bad, .bad, .bad, .bad, .bad, .bad, .bad, .bad, .bad], bl := [(7, ⟨.arr, 1, p2⟩)] }
theorem r_laws_toStringS (A : Alg) (hA : A = std) (xs : List ByteArray) (hk : ∀ k ∈ zsStringS xs, k ≤ 1048576) : Real Tryz.prog 145 [.sl 1 (List.map eString xs)] (.ow 1 (List.map eString xs)) := by
 obtain ⟨a0, a1⟩ := nm (xs.map eString)
 have d4 := rlen_map hA a1
 refine real_args (args' := [.sl 1 a0]) (by subst a1; rfl) ?_
 have hlen : List.length xs ≤ 1048576 := hk _ (by simp [zsStringS])
 refine real tyOk Tryz.func145 (by kernel_rfl) (afun_of rfl ?_)
 refine gx hA 1 ?_
 refine gs (gr (rn hA 2 ?_))
 obtain ⟨rm, hrm⟩ := nm (List.replicate (Int.toNat (A.rlen a0)) [.str ByteArray.empty] : RR)
 have hn0 : (0 : Int) ≤ A.rlen a0 := by omega
 have hmax : A.rlen a0 * 16 ≤ 140737488355328 := by omega
 refine ops_step rfl rfl (mk_arr rfl rfl rfl rfl rfl rfl hn0 hmax (by decide) (by decide) rfl hrm) ?_
 refine rz hA 1 ?_
 refine gs (gx hA 1 ?_)
 refine go_block ?_
 refine go_loopE (fun σ m => ∃ (i : Nat) (ro : RR) (n4 : Int), σ = (S145_1 a0 n4 ro) ∧ (n4 = (i : Int) ∧ i ≤ List.length xs ∧ ro = fill eString [.str ByteArray.empty] xs i) ∧ m = List.length xs - i) _ [] [0, 3, 4] [7] (S145_1 a0 0 rm) rfl (by cbv) ⟨0, rm, 0, rfl, ?_, rfl⟩ (fun σ m hI => ?_)
 ·
  exact ⟨rfl, Nat.zero_le _, by rw [hrm, fill_zero, d4]; rfl⟩
 obtain ⟨i, ro, n4, rfl, ⟨hn4, hi, hro⟩, rfl⟩ := hI
 refine gs (gx hA 4 ?_)
 refine go_cond rfl (fun c1 => ?_) (fun c1 => ?_)
 ·
  have ec1 : n4 < (A.rlen a0) := lss_t hA c1
  refine gk (gs ?_)
  refine go_block ?_
  refine gr (rn hA 4 ?_)
  have i2 : (0 : Int) ≤ n4 := by
   omega
  have i1 : (Int.toNat n4) < List.length xs := by
   omega
  obtain ⟨x2, hx2⟩ : ∃ x, (xs)[(Int.toNat n4)]? = some x := ⟨_, List.getElem?_eq_getElem i1⟩
  have m1 := List.mem_of_getElem? hx2
  have g9 : a0[(Int.toNat n4)]? = some [.str x2] := by
   exact map_at eString a1 hx2
  refine ops_step rfl rfl (idx_sl rfl rfl rfl rfl rfl i2 rfl g9) ?_
  refine rn hA 1 ?_
  have hlo : n4 < (List.length ro : Int) := by
   rw [hro, fill_len _ _ _ hi]; omega
  refine ops_step rfl rfl (idx_own rfl rfl rfl rfl rfl rfl (by omega) hlo rfl) ?_
  have a2 := hx2
  rw [hn4] at a2
  have a2 : xs[i]? = some _ := a2
  have hz : ro[Int.toNat n4]? = some [.str ByteArray.empty] := by
   rw [hro, hn4]; exact fill_at _ _ _ (by omega)
  have hset : fill eString [.str ByteArray.empty] xs (i + 1) = ro.set (Int.toNat n4) [.str x2] := by
   rw [hro, hn4]; exact (fill_set eString _ xs a2).symm
  obtain ⟨ro2, b4⟩ : ∃ r, r = fill eString [.str ByteArray.empty] xs (i + 1) := ⟨_, rfl⟩
  rw [← b4] at hset
  refine ops_step rfl rfl (sto_arr (r := [.str ByteArray.empty]) (cs := [.str x2]) rfl rfl rfl rfl rfl ⟨_, _, rfl⟩ rfl rfl hz rfl hset) ?_
  refine od ?_
  refine gy hA 3 ?_
  refine ⟨(S145_1 a0 (A.num .add .i64 n4 1) ro2), List.length xs - (i + 1), ?_, by cbv, i + 1, ro2, (A.num .add .i64 n4 1), rfl, ?_, rfl⟩
  ·
   omega
  exact ⟨by rw [add_i64 hA (by omega) (by omega)]; omega, by omega, b4⟩
 have ec1 : (A.rlen a0) ≤ n4 := lss_f hA c1
 refine go_exit ⟨fun _ => ?_, fun h => absurd rfl h⟩
 refine gx hA 2 ?_
 refine go_ret ⟨_, by cbv, ?_⟩
 show _ = (PV.ow 1 ro)
 refine congrArg (PV.ow 1) ?_
 rw [hro, fill_all _ _ _ (by omega)]
theorem r_laws_toWrite (A : Alg) (hA : A = std) (x : GWrite) (hk : ∀ k ∈ zsWrite x, k ≤ 1048576) : Real Tryz.prog 181 [.agg (eWrite x)] (.agg (eoWrite x)) := by
 obtain ⟨D2, k6⟩ := x
 refine real_args (args' := [.agg [.ii D2, .str k6]]) (by rfl) ?_
 refine real tyOk Tryz.func181 (by kernel_rfl) (afun_of rfl ?_)
 refine gx hA 2 ?_
 refine gx hA 1 ?_
 refine gx hA 4 ?_
 refine gx hA 4 ?_
 refine gx hA 2 ?_
 refine go_ret ⟨_, by cbv, ?_⟩
 show _ = (PV.agg [.ii D2, .str k6])
 rfl
def S146_1 (p0 : RR) (p1 : Int) (p2 : RR) : St := { sl := [.sl 2 p0, .bad, .bad, .own 7, .ii p1, .bad, .bad, .bad, .bad, .bad, .bad, .bad, .bad, .bad, .bad, .bad, .bad, .bad, .bad, .bad, .bad, .bad, .bad], bl := [(7, ⟨.arr, 2, p2⟩)] }
theorem r_laws_toWriteS (A : Alg) (hA : A = std) (xs : List GWrite) (hk : ∀ k ∈ zsWriteS xs, k ≤ 1048576) : Real Tryz.prog 146 [.sl 2 (List.map eWrite xs)] (.ow 2 (List.map eoWrite xs)) := by
 obtain ⟨a0, a1⟩ := nm (xs.map eWrite)
 have d4 := rlen_map hA a1
 refine real_args (args' := [.sl 2 a0]) (by subst a1; rfl) ?_
 have hlen : List.length xs ≤ 1048576 := hk _ (by simp [zsWriteS])
 refine real tyOk Tryz.func146 (by kernel_rfl) (afun_of rfl ?_)
 refine gx hA 1 ?_
 refine gs (gr (rn hA 2 ?_))
 obtain ⟨rm, hrm⟩ := nm (List.replicate (Int.toNat (A.rlen a0)) [.ii 0, .str ByteArray.empty] : RR)
 have hn0 : (0 : Int) ≤ A.rlen a0 := by omega
 have hmax : A.rlen a0 * 24 ≤ 140737488355328 := by omega
 refine ops_step rfl rfl (mk_arr rfl rfl rfl rfl rfl rfl hn0 hmax (by decide) (by decide) rfl hrm) ?_
 refine rz hA 1 ?_
 refine gs (gx hA 1 ?_)
 refine go_block ?_
 refine go_loopE (fun σ m => ∃ (i : Nat) (ro : RR) (n4 : Int), σ = (S146_1 a0 n4 ro) ∧ (n4 = (i : Int) ∧ i ≤ List.length xs ∧ ro = fill eoWrite [.ii 0, .str ByteArray.empty] xs i) ∧ m = List.length xs - i) _ [] [0, 3, 4] [7] (S146_1 a0 0 rm) rfl (by cbv) ⟨0, rm, 0, rfl, ?_, rfl⟩ (fun σ m hI => ?_)
 ·
  exact ⟨rfl, Nat.zero_le _, by rw [hrm, fill_zero, d4]; rfl⟩
 obtain ⟨i, ro, n4, rfl, ⟨hn4, hi, hro⟩, rfl⟩ := hI
 refine gs (gx hA 4 ?_)
 refine go_cond rfl (fun c1 => ?_) (fun c1 => ?_)
 ·
  have ec1 : n4 < (A.rlen a0) := lss_t hA c1
  refine gk (gs ?_)
  refine go_block ?_
  refine gr (rn hA 4 ?_)
  have i2 : (0 : Int) ≤ n4 := by
   omega
  have i1 : (Int.toNat n4) < List.length xs := by
   omega
  obtain ⟨x2, hx2⟩ : ∃ x, (xs)[(Int.toNat n4)]? = some x := ⟨_, List.getElem?_eq_getElem i1⟩
  have m1 := List.mem_of_getElem? hx2
  obtain ⟨t3, b3⟩ := x2
  have g9 : a0[(Int.toNat n4)]? = some [.ii t3, .str b3] := by
   exact map_at eWrite a1 hx2
  have hkx := fun (k : Nat) h => hk k (List.mem_cons_of_mem _ (List.mem_flatMap.2 ⟨_, m1, h⟩))
  refine ops_step rfl rfl (idx_sl rfl rfl rfl rfl rfl i2 rfl g9) ?_
  refine rn hA 1 ?_
  have hc4 : Real Tryz.prog 181 [.agg [.ii t3, .str b3]] (.agg [.ii t3, .str b3]) := by exact r_laws_toWrite A hA (⟨t3, b3⟩ : GWrite) hkx
  refine ops_callV rfl rfl (by cbv) (by cbv) hc4 (.inr rfl) (by cbv) ?_
  have hlo : n4 < (List.length ro : Int) := by
   rw [hro, fill_len _ _ _ hi]; omega
  refine ops_step rfl rfl (idx_own rfl rfl rfl rfl rfl rfl (by omega) hlo rfl) ?_
  have a2 := hx2
  rw [hn4] at a2
  have a2 : xs[i]? = some _ := a2
  have hz : ro[Int.toNat n4]? = some [.ii 0, .str ByteArray.empty] := by
   rw [hro, hn4]; exact fill_at _ _ _ (by omega)
  have hset : fill eoWrite [.ii 0, .str ByteArray.empty] xs (i + 1) = ro.set (Int.toNat n4) [.ii t3, .str b3] := by
   rw [hro, hn4]; exact (fill_set eoWrite _ xs a2).symm
  obtain ⟨ro2, b4⟩ : ∃ r, r = fill eoWrite [.ii 0, .str ByteArray.empty] xs (i + 1) := ⟨_, rfl⟩
  rw [← b4] at hset
  refine ops_step rfl rfl (sto_arr (r := [.ii 0, .str ByteArray.empty]) (cs := [.ii t3, .str b3]) rfl rfl rfl rfl rfl ⟨_, _, rfl⟩ rfl rfl hz rfl hset) ?_
  refine od ?_
  refine gy hA 3 ?_
  refine ⟨(S146_1 a0 (A.num .add .i64 n4 1) ro2), List.length xs - (i + 1), ?_, by cbv, i + 1, ro2, (A.num .add .i64 n4 1), rfl, ?_, rfl⟩
  ·
   omega
  exact ⟨by rw [add_i64 hA (by omega) (by omega)]; omega, by omega, b4⟩
 have ec1 : (A.rlen a0) ≤ n4 := lss_f hA c1
 refine go_exit ⟨fun _ => ?_, fun h => absurd rfl h⟩
 refine gx hA 2 ?_
 refine go_ret ⟨_, by cbv, ?_⟩
 show _ = (PV.ow 2 ro)
 refine congrArg (PV.ow 2) ?_
 rw [hro, fill_all _ _ _ (by omega)]
theorem r_laws_toDisk (A : Alg) (hA : A = std) (x : GDisk) (hk : ∀ k ∈ zsDisk x, k ≤ 1048576) : Real Tryz.prog 105 [.agg (eDisk x)] (.agg (eoDisk x)) := by
 obtain ⟨r9, u5⟩ := x
 obtain ⟨t6, n7⟩ := nm (r9.map eString)
 have D3 := rlen_map hA n7
 obtain ⟨v7, r3⟩ := nm (u5.map eWrite)
 have E7 := rlen_map hA r3
 refine real_args (args' := [.agg [.sl 1 t6, .sl 2 v7]]) (by subst n7 r3; rfl) ?_
 refine real tyOk Tryz.func105 (by kernel_rfl) (afun_of rfl ?_)
 refine gx hA 2 ?_
 refine gx hA 1 ?_
 refine gs (gr (rn hA 2 ?_))
 obtain ⟨x5, B3, hc2⟩ : ∃ (x5 : RR), x5 = List.map eString r9 ∧ Real Tryz.prog 145 [.sl 1 t6] (.ow 1 x5) := ⟨_, rfl, by subst n7; exact r_laws_toStringS A hA r9 (fun k h => hk k (by simp only [zsDisk, List.mem_append]; simp only [h, true_or, or_true]))⟩
 have F7 := rlen_map hA B3
 refine ops_callV rfl rfl (by cbv) (by cbv) hc2 (.inr rfl) (by cbv) ?_
 refine rz hA 2 ?_
 refine gs (gr (rn hA 2 ?_))
 obtain ⟨e8, k8, hc4⟩ : ∃ (e8 : RR), e8 = List.map eoWrite u5 ∧ Real Tryz.prog 146 [.sl 2 v7] (.ow 2 e8) := ⟨_, rfl, by subst r3; exact r_laws_toWriteS A hA u5 (fun k h => hk k (by simp only [zsDisk, List.mem_append]; simp only [h, true_or, or_true]))⟩
 have y5 := rlen_map hA k8
 refine ops_callV rfl rfl (by cbv) (by cbv) hc4 (.inr rfl) (by cbv) ?_
 refine rz hA 2 ?_
 refine gx hA 2 ?_
 refine go_ret ⟨_, by cbv, ?_⟩
 show _ = (PV.agg [.ow 1 x5, .ow 2 e8])
 subst B3 k8
 rfl
theorem r_laws_toRec (A : Alg) (hA : A = std) (x : GRec) (hk : ∀ k ∈ zsRec x, k ≤ 1048576) : Real Tryz.prog 208 [.agg (eRec x)] (.agg (eoRec x)) := by
 obtain ⟨s0, p7, u2, y1, q6, l0, y0, k6⟩ := x
 refine real_args (args' := [.agg [.ii s0, .ii p7, .ii u2, .ii y1, .ii q6, .str l0, .str y0, .str k6]]) (by rfl) ?_
 refine real tyOk Tryz.func208 (by kernel_rfl) (afun_of rfl ?_)
 refine gx hA 2 ?_
 refine gx hA 1 ?_
 refine gx hA 4 ?_
 refine gx hA 4 ?_
 refine gx hA 4 ?_
 refine gx hA 4 ?_
 refine gx hA 4 ?_
 refine gx hA 4 ?_
 refine gx hA 4 ?_
 refine gx hA 4 ?_
 refine gx hA 2 ?_
 refine go_ret ⟨_, by cbv, ?_⟩
 show _ = (PV.agg [.ii s0, .ii p7, .ii u2, .ii y1, .ii q6, .str l0, .str y0, .str k6])
 rfl
theorem r_laws_toItem (A : Alg) (hA : A = std) (x : GItem) (hk : ∀ k ∈ zsItem x, k ≤ 1048576) : Real Tryz.prog 194 [.agg (eItem x)] (.agg (eoItem x)) := by
 obtain ⟨B6, ⟨j3, g3, l3, j2, f9, i9, i6, j8⟩⟩ := x
 refine real_args (args' := [.agg [.ii B6, .ii j3, .ii g3, .ii l3, .ii j2, .ii f9, .str i9, .str i6, .str j8]]) (by rfl) ?_
 refine real tyOk Tryz.func194 (by kernel_rfl) (afun_of rfl ?_)
 refine gx hA 2 ?_
 refine gx hA 1 ?_
 refine gx hA 4 ?_
 refine gs (gr (rn hA 2 ?_))
 have hc2 : Real Tryz.prog 208 [.agg [.ii j3, .ii g3, .ii l3, .ii j2, .ii f9, .str i9, .str i6, .str j8]] (.agg [.ii j3, .ii g3, .ii l3, .ii j2, .ii f9, .str i9, .str i6, .str j8]) := by exact r_laws_toRec A hA (⟨j3, g3, l3, j2, f9, i9, i6, j8⟩ : GRec) (fun k h => hk k (by simp only [zsItem, List.mem_append]; simp only [h, true_or, or_true]))
 refine ops_callV rfl rfl (by cbv) (by cbv) hc2 (.inr rfl) (by cbv) ?_
 refine rz hA 2 ?_
 refine gx hA 2 ?_
 refine go_ret ⟨_, by cbv, ?_⟩
 show _ = (PV.agg [.ii B6, .ii j3, .ii g3, .ii l3, .ii j2, .ii f9, .str i9, .str i6, .str j8])
 rfl
def S182_1 (p0 : RR) (p1 : Int) (p2 : RR) : St := { sl := [.sl 9 p0, .bad, .bad, .own 7, .ii p1, .bad, .bad, .bad, .bad, .bad, .bad, .bad, .bad, .bad, .bad, .bad, .bad, .bad, .bad, .bad, .bad, .bad, .bad], bl := [(7, ⟨.arr, 9, p2⟩)] }
theorem r_laws_toItemS (A : Alg) (hA : A = std) (xs : List GItem) (hk : ∀ k ∈ zsItemS xs, k ≤ 1048576) : Real Tryz.prog 182 [.sl 9 (List.map eItem xs)] (.ow 9 (List.map eoItem xs)) := by
 obtain ⟨a0, a1⟩ := nm (xs.map eItem)
 have d4 := rlen_map hA a1
 refine real_args (args' := [.sl 9 a0]) (by subst a1; rfl) ?_
 have hlen : List.length xs ≤ 1048576 := hk _ (by simp [zsItemS])
 refine real tyOk Tryz.func182 (by kernel_rfl) (afun_of rfl ?_)
 refine gx hA 1 ?_
 refine gs (gr (rn hA 2 ?_))
 obtain ⟨rm, hrm⟩ := nm (List.replicate (Int.toNat (A.rlen a0)) [.ii 0, .ii 0, .ii 0, .ii 0, .ii 0, .ii 0, .str ByteArray.empty, .str ByteArray.empty, .str ByteArray.empty] : RR)
 have hn0 : (0 : Int) ≤ A.rlen a0 := by omega
 have hmax : A.rlen a0 * 96 ≤ 140737488355328 := by omega
 refine ops_step rfl rfl (mk_arr rfl rfl rfl rfl rfl rfl hn0 hmax (by decide) (by decide) rfl hrm) ?_
 refine rz hA 1 ?_
 refine gs (gx hA 1 ?_)
 refine go_block ?_
 refine go_loopE (fun σ m => ∃ (i : Nat) (ro : RR) (n4 : Int), σ = (S182_1 a0 n4 ro) ∧ (n4 = (i : Int) ∧ i ≤ List.length xs ∧ ro = fill eoItem [.ii 0, .ii 0, .ii 0, .ii 0, .ii 0, .ii 0, .str ByteArray.empty, .str ByteArray.empty, .str ByteArray.empty] xs i) ∧ m = List.length xs - i) _ [] [0, 3, 4] [7] (S182_1 a0 0 rm) rfl (by cbv) ⟨0, rm, 0, rfl, ?_, rfl⟩ (fun σ m hI => ?_)
 ·
  exact ⟨rfl, Nat.zero_le _, by rw [hrm, fill_zero, d4]; rfl⟩
 obtain ⟨i, ro, n4, rfl, ⟨hn4, hi, hro⟩, rfl⟩ := hI
 refine gs (gx hA 4 ?_)
 refine go_cond rfl (fun c1 => ?_) (fun c1 => ?_)
 ·
  have ec1 : n4 < (A.rlen a0) := lss_t hA c1
  refine gk (gs ?_)
  refine go_block ?_
  refine gr (rn hA 4 ?_)
  have i2 : (0 : Int) ≤ n4 := by
   omega
  have i1 : (Int.toNat n4) < List.length xs := by
   omega
  obtain ⟨x2, hx2⟩ : ∃ x, (xs)[(Int.toNat n4)]? = some x := ⟨_, List.getElem?_eq_getElem i1⟩
  have m1 := List.mem_of_getElem? hx2
  obtain ⟨p5, ⟨e0, d2, f6, e1, d1, e3, e5, e4⟩⟩ := x2
  have g9 : a0[(Int.toNat n4)]? = some [.ii p5, .ii e0, .ii d2, .ii f6, .ii e1, .ii d1, .str e3, .str e5, .str e4] := by
   exact map_at eItem a1 hx2
  have hkx := fun (k : Nat) h => hk k (List.mem_cons_of_mem _ (List.mem_flatMap.2 ⟨_, m1, h⟩))
  refine ops_step rfl rfl (idx_sl rfl rfl rfl rfl rfl i2 rfl g9) ?_
  refine rn hA 1 ?_
  have hc4 : Real Tryz.prog 194 [.agg [.ii p5, .ii e0, .ii d2, .ii f6, .ii e1, .ii d1, .str e3, .str e5, .str e4]] (.agg [.ii p5, .ii e0, .ii d2, .ii f6, .ii e1, .ii d1, .str e3, .str e5, .str e4]) := by exact r_laws_toItem A hA (⟨p5, ⟨e0, d2, f6, e1, d1, e3, e5, e4⟩⟩ : GItem) hkx
  refine ops_callV rfl rfl (by cbv) (by cbv) hc4 (.inr rfl) (by cbv) ?_
  have hlo : n4 < (List.length ro : Int) := by
   rw [hro, fill_len _ _ _ hi]; omega
  refine ops_step rfl rfl (idx_own rfl rfl rfl rfl rfl rfl (by omega) hlo rfl) ?_
  have a2 := hx2
  rw [hn4] at a2
  have a2 : xs[i]? = some _ := a2
  have hz : ro[Int.toNat n4]? = some [.ii 0, .ii 0, .ii 0, .ii 0, .ii 0, .ii 0, .str ByteArray.empty, .str ByteArray.empty, .str ByteArray.empty] := by
   rw [hro, hn4]; exact fill_at _ _ _ (by omega)
  have hset : fill eoItem [.ii 0, .ii 0, .ii 0, .ii 0, .ii 0, .ii 0, .str ByteArray.empty, .str ByteArray.empty, .str ByteArray.empty] xs (i + 1) = ro.set (Int.toNat n4) [.ii p5, .ii e0, .ii d2, .ii f6, .ii e1, .ii d1, .str e3, .str e5, .str e4] := by
   rw [hro, hn4]; exact (fill_set eoItem _ xs a2).symm
  obtain ⟨ro2, b4⟩ : ∃ r, r = fill eoItem [.ii 0, .ii 0, .ii 0, .ii 0, .ii 0, .ii 0, .str ByteArray.empty, .str ByteArray.empty, .str ByteArray.empty] xs (i + 1) := ⟨_, rfl⟩
  rw [← b4] at hset
  refine ops_step rfl rfl (sto_arr (r := [.ii 0, .ii 0, .ii 0, .ii 0, .ii 0, .ii 0, .str ByteArray.empty, .str ByteArray.empty, .str ByteArray.empty]) (cs := [.ii p5, .ii e0, .ii d2, .ii f6, .ii e1, .ii d1, .str e3, .str e5, .str e4]) rfl rfl rfl rfl rfl ⟨_, _, rfl⟩ rfl rfl hz rfl hset) ?_
  refine od ?_
  refine gy hA 3 ?_
  refine ⟨(S182_1 a0 (A.num .add .i64 n4 1) ro2), List.length xs - (i + 1), ?_, by cbv, i + 1, ro2, (A.num .add .i64 n4 1), rfl, ?_, rfl⟩
  ·
   omega
  exact ⟨by rw [add_i64 hA (by omega) (by omega)]; omega, by omega, b4⟩
 have ec1 : (A.rlen a0) ≤ n4 := lss_f hA c1
 refine go_exit ⟨fun _ => ?_, fun h => absurd rfl h⟩
 refine gx hA 2 ?_
 refine go_ret ⟨_, by cbv, ?_⟩
 show _ = (PV.ow 9 ro)
 refine congrArg (PV.ow 9) ?_
 rw [hro, fill_all _ _ _ (by omega)]
theorem r_laws_toSeg (A : Alg) (hA : A = std) (x : GSeg) (hk : ∀ k ∈ zsSeg x, k ≤ 1048576) : Real Tryz.prog 147 [.agg (eSeg x)] (.agg (eoSeg x)) := by
 obtain ⟨D0, B4, B1, u7⟩ := x
 obtain ⟨v3, q9⟩ := nm (u7.map eItem)
 have E4 := rlen_map hA q9
 refine real_args (args' := [.agg [.ii D0, .ii B4, .ii B1, .sl 9 v3]]) (by subst q9; rfl) ?_
 refine real tyOk Tryz.func147 (by kernel_rfl) (afun_of rfl ?_)
 refine gx hA 2 ?_
 refine gx hA 1 ?_
 refine gx hA 4 ?_
 refine gx hA 4 ?_
 refine gx hA 4 ?_
 refine gs (gr (rn hA 2 ?_))
 obtain ⟨w1, y2, hc2⟩ : ∃ (w1 : RR), w1 = List.map eoItem u7 ∧ Real Tryz.prog 182 [.sl 9 v3] (.ow 9 w1) := ⟨_, rfl, by subst q9; exact r_laws_toItemS A hA u7 (fun k h => hk k (by simp only [zsSeg, List.mem_append]; simp only [h, true_or, or_true]))⟩
 have F5 := rlen_map hA y2
 refine ops_callV rfl rfl (by cbv) (by cbv) hc2 (.inr rfl) (by cbv) ?_
 refine rz hA 2 ?_
 refine gx hA 2 ?_
 refine go_ret ⟨_, by cbv, ?_⟩
 show _ = (PV.agg [.ii D0, .ii B4, .ii B1, .ow 9 w1])
 subst y2
 rfl
def S106_1 (p0 : RR) (p1 : Int) (p2 : RR) : St := { sl := [.sl 4 p0, .bad, .bad, .own 7, .ii p1, .bad, .bad, .bad, .bad, .bad, .bad, .bad, .bad, .bad, .bad, .bad, .bad, .bad, .bad, .bad, .bad, .bad, .bad], bl := [(7, ⟨.arr, 4, p2⟩)] }
theorem r_laws_toSegS (A : Alg) (hA : A = std) (xs : List GSeg) (hk : ∀ k ∈ zsSegS xs, k ≤ 1048576) : Real Tryz.prog 106 [.sl 4 (List.map eSeg xs)] (.ow 4 (List.map eoSeg xs)) := by
 obtain ⟨a0, a1⟩ := nm (xs.map eSeg)
 have d4 := rlen_map hA a1
 refine real_args (args' := [.sl 4 a0]) (by subst a1; rfl) ?_
 have hlen : List.length xs ≤ 1048576 := hk _ (by simp [zsSegS])
 refine real tyOk Tryz.func106 (by kernel_rfl) (afun_of rfl ?_)
 refine gx hA 1 ?_
 refine gs (gr (rn hA 2 ?_))
 obtain ⟨rm, hrm⟩ := nm (List.replicate (Int.toNat (A.rlen a0)) [.ii 0, .ii 0, .ii 0, .zc] : RR)
 have hn0 : (0 : Int) ≤ A.rlen a0 := by omega
 have hmax : A.rlen a0 * 48 ≤ 140737488355328 := by omega
 refine ops_step rfl rfl (mk_arr rfl rfl rfl rfl rfl rfl hn0 hmax (by decide) (by decide) rfl hrm) ?_
 refine rz hA 1 ?_
 refine gs (gx hA 1 ?_)
 refine go_block ?_
 refine go_loopE (fun σ m => ∃ (i : Nat) (ro : RR) (n4 : Int), σ = (S106_1 a0 n4 ro) ∧ (n4 = (i : Int) ∧ i ≤ List.length xs ∧ ro = fill eoSeg [.ii 0, .ii 0, .ii 0, .zc] xs i) ∧ m = List.length xs - i) _ [] [0, 3, 4] [7] (S106_1 a0 0 rm) rfl (by cbv) ⟨0, rm, 0, rfl, ?_, rfl⟩ (fun σ m hI => ?_)
 ·
  exact ⟨rfl, Nat.zero_le _, by rw [hrm, fill_zero, d4]; rfl⟩
 obtain ⟨i, ro, n4, rfl, ⟨hn4, hi, hro⟩, rfl⟩ := hI
 refine gs (gx hA 4 ?_)
 refine go_cond rfl (fun c1 => ?_) (fun c1 => ?_)
 ·
  have ec1 : n4 < (A.rlen a0) := lss_t hA c1
  refine gk (gs ?_)
  refine go_block ?_
  refine gr (rn hA 4 ?_)
  have i2 : (0 : Int) ≤ n4 := by
   omega
  have i1 : (Int.toNat n4) < List.length xs := by
   omega
  obtain ⟨x2, hx2⟩ : ∃ x, (xs)[(Int.toNat n4)]? = some x := ⟨_, List.getElem?_eq_getElem i1⟩
  have m1 := List.mem_of_getElem? hx2
  obtain ⟨t1, q1, p6, u1⟩ := x2
  obtain ⟨u4, o9⟩ := nm (u1.map eItem)
  have E1 := rlen_map hA o9
  have g9 : a0[(Int.toNat n4)]? = some [.ii t1, .ii q1, .ii p6, .sl 9 u4] := by
   subst o9; exact map_at eSeg a1 hx2
  have hkx := fun (k : Nat) h => hk k (List.mem_cons_of_mem _ (List.mem_flatMap.2 ⟨_, m1, h⟩))
  refine ops_step rfl rfl (idx_sl rfl rfl rfl rfl rfl i2 rfl g9) ?_
  refine rn hA 1 ?_
  obtain ⟨g0, s8, hc4⟩ : ∃ (g0 : RR), g0 = List.map eoItem u1 ∧ Real Tryz.prog 147 [.agg [.ii t1, .ii q1, .ii p6, .sl 9 u4]] (.agg [.ii t1, .ii q1, .ii p6, .ow 9 g0]) := ⟨_, rfl, by subst o9; exact r_laws_toSeg A hA (⟨t1, q1, p6, u1⟩ : GSeg) hkx⟩
  have D6 := rlen_map hA s8
  refine ops_callV rfl rfl (by cbv) (by cbv) hc4 (.inr rfl) (by cbv) ?_
  have hlo : n4 < (List.length ro : Int) := by
   rw [hro, fill_len _ _ _ hi]; omega
  refine ops_step rfl rfl (idx_own rfl rfl rfl rfl rfl rfl (by omega) hlo rfl) ?_
  have a2 := hx2
  rw [hn4] at a2
  have a2 : xs[i]? = some _ := a2
  have hz : ro[Int.toNat n4]? = some [.ii 0, .ii 0, .ii 0, .zc] := by
   rw [hro, hn4]; exact fill_at _ _ _ (by omega)
  have hset : fill eoSeg [.ii 0, .ii 0, .ii 0, .zc] xs (i + 1) = ro.set (Int.toNat n4) [.ii t1, .ii q1, .ii p6, .ow 9 g0] := by
   rw [hro, hn4]; subst s8; exact (fill_set eoSeg _ xs a2).symm
  obtain ⟨ro2, b4⟩ : ∃ r, r = fill eoSeg [.ii 0, .ii 0, .ii 0, .zc] xs (i + 1) := ⟨_, rfl⟩
  rw [← b4] at hset
  refine ops_step rfl rfl (sto_arr (r := [.ii 0, .ii 0, .ii 0, .zc]) (cs := [.ii t1, .ii q1, .ii p6, .ow 9 g0]) rfl rfl rfl rfl rfl ⟨_, _, rfl⟩ rfl rfl hz rfl hset) ?_
  refine od ?_
  refine gy hA 3 ?_
  refine ⟨(S106_1 a0 (A.num .add .i64 n4 1) ro2), List.length xs - (i + 1), ?_, by cbv, i + 1, ro2, (A.num .add .i64 n4 1), rfl, ?_, rfl⟩
  ·
   omega
  exact ⟨by rw [add_i64 hA (by omega) (by omega)]; omega, by omega, b4⟩
 have ec1 : (A.rlen a0) ≤ n4 := lss_f hA c1
 refine go_exit ⟨fun _ => ?_, fun h => absurd rfl h⟩
 refine gx hA 2 ?_
 refine go_ret ⟨_, by cbv, ?_⟩
 show _ = (PV.ow 4 ro)
 refine congrArg (PV.ow 4) ?_
 rw [hro, fill_all _ _ _ (by omega)]
theorem r_laws_toLog (A : Alg) (hA : A = std) (x : GLog) (hk : ∀ k ∈ zsLog x, k ≤ 1048576) : Real Tryz.prog 59 [.agg (eLog x)] (.agg (eoLog x)) := by
 obtain ⟨⟨k2, o2⟩, y8, w3, v2, v4, x1, t4⟩ := x
 obtain ⟨o0, f8⟩ := nm (k2.map eString)
 have z2 := rlen_map hA f8
 obtain ⟨p8, j4⟩ := nm (o2.map eWrite)
 have B5 := rlen_map hA j4
 obtain ⟨w9, s1⟩ := nm (w3.map eSeg)
 have F1 := rlen_map hA s1
 refine real_args (args' := [.agg [.sl 1 o0, .sl 2 p8, .ii y8, .sl 4 w9, .ii v2, .ii v4, .ii x1, .ii t4]]) (by subst f8 j4 s1; rfl) ?_
 refine real tyOk Tryz.func59 (by kernel_rfl) (afun_of rfl ?_)
 refine gx hA 2 ?_
 refine gx hA 1 ?_
 refine gs (gr (rn hA 2 ?_))
 obtain ⟨i8, m6, r5, t7, hc2⟩ : ∃ (i8 : RR) (m6 : RR), i8 = List.map eString k2 ∧ m6 = List.map eoWrite o2 ∧ Real Tryz.prog 105 [.agg [.sl 1 o0, .sl 2 p8]] (.agg [.ow 1 i8, .ow 2 m6]) := ⟨_, _, rfl, rfl, by subst f8 j4; exact r_laws_toDisk A hA (⟨k2, o2⟩ : GDisk) (fun k h => hk k (by simp only [zsLog, List.mem_append]; simp only [h, true_or, or_true]))⟩
 have C7 := rlen_map hA r5
 have D8 := rlen_map hA t7
 refine ops_callV rfl rfl (by cbv) (by cbv) hc2 (.inr rfl) (by cbv) ?_
 refine rz hA 2 ?_
 refine gx hA 4 ?_
 refine gs (gr (rn hA 2 ?_))
 obtain ⟨w0, y6, hc4⟩ : ∃ (w0 : RR), w0 = List.map eoSeg w3 ∧ Real Tryz.prog 106 [.sl 4 w9] (.ow 4 w0) := ⟨_, rfl, by subst s1; exact r_laws_toSegS A hA w3 (fun k h => hk k (by simp only [zsLog, List.mem_append]; simp only [h, true_or, or_true]))⟩
 have F6 := rlen_map hA y6
 refine ops_callV rfl rfl (by cbv) (by cbv) hc4 (.inr rfl) (by cbv) ?_
 refine rz hA 2 ?_
 refine gx hA 4 ?_
 refine gx hA 4 ?_
 refine gx hA 4 ?_
 refine gx hA 4 ?_
 refine gx hA 2 ?_
 refine go_ret ⟨_, by cbv, ?_⟩
 show _ = (PV.agg [.ow 1 i8, .ow 2 m6, .ii y8, .ow 4 w0, .ii v2, .ii v4, .ii x1, .ii t4])
 subst r5 t7 y6
 rfl
def S60_1 (p0 : RR) (p1 : Int) (p2 : RR) : St := { sl := [.sl 1 p0, .bad, .bad, .own 7, .ii p1, .bad, .bad, .bad, .bad, .bad, .bad, .bad, .bad, .bad, .bad, .bad, .bad, .bad, .bad, .bad, .bad, .bad], bl := [(7, ⟨.arr, 1, p2⟩)] }
theorem r_laws_toIntS (A : Alg) (hA : A = std) (xs : List Int) (hk : ∀ k ∈ zsIntS xs, k ≤ 1048576) : Real Tryz.prog 60 [.sl 1 (List.map eInt xs)] (.ow 1 (List.map eInt xs)) := by
 obtain ⟨a0, a1⟩ := nm (xs.map eInt)
 have d4 := rlen_map hA a1
 refine real_args (args' := [.sl 1 a0]) (by subst a1; rfl) ?_
 have hlen : List.length xs ≤ 1048576 := hk _ (by simp [zsIntS])
 refine real tyOk Tryz.func60 (by kernel_rfl) (afun_of rfl ?_)
 refine gx hA 1 ?_
 refine gs (gr (rn hA 2 ?_))
 obtain ⟨rm, hrm⟩ := nm (List.replicate (Int.toNat (A.rlen a0)) [.ii 0] : RR)
 have hn0 : (0 : Int) ≤ A.rlen a0 := by omega
 have hmax : A.rlen a0 * 8 ≤ 140737488355328 := by omega
 refine ops_step rfl rfl (mk_arr rfl rfl rfl rfl rfl rfl hn0 hmax (by decide) (by decide) rfl hrm) ?_
 refine rz hA 1 ?_
 refine gs (gx hA 1 ?_)
 refine go_block ?_
 refine go_loopE (fun σ m => ∃ (i : Nat) (ro : RR) (n4 : Int), σ = (S60_1 a0 n4 ro) ∧ (n4 = (i : Int) ∧ i ≤ List.length xs ∧ ro = fill eInt [.ii 0] xs i) ∧ m = List.length xs - i) _ [] [0, 3, 4] [7] (S60_1 a0 0 rm) rfl (by cbv) ⟨0, rm, 0, rfl, ?_, rfl⟩ (fun σ m hI => ?_)
 ·
  exact ⟨rfl, Nat.zero_le _, by rw [hrm, fill_zero, d4]; rfl⟩
 obtain ⟨i, ro, n4, rfl, ⟨hn4, hi, hro⟩, rfl⟩ := hI
 refine gs (gx hA 4 ?_)
 refine go_cond rfl (fun c1 => ?_) (fun c1 => ?_)
 ·
  have ec1 : n4 < (A.rlen a0) := lss_t hA c1
  refine gk (gs ?_)
  refine go_block ?_
  refine gr (rn hA 4 ?_)
  have i2 : (0 : Int) ≤ n4 := by
   omega
  have i1 : (Int.toNat n4) < List.length xs := by
   omega
  obtain ⟨x2, hx2⟩ : ∃ x, (xs)[(Int.toNat n4)]? = some x := ⟨_, List.getElem?_eq_getElem i1⟩
  have m1 := List.mem_of_getElem? hx2
  have g9 : a0[(Int.toNat n4)]? = some [.ii x2] := by
   exact map_at eInt a1 hx2
  refine ops_step rfl rfl (idx_sl rfl rfl rfl rfl rfl i2 rfl g9) ?_
  refine rn hA 1 ?_
  have hlo : n4 < (List.length ro : Int) := by
   rw [hro, fill_len _ _ _ hi]; omega
  refine ops_step rfl rfl (idx_own rfl rfl rfl rfl rfl rfl (by omega) hlo rfl) ?_
  have a2 := hx2
  rw [hn4] at a2
  have a2 : xs[i]? = some _ := a2
  have hz : ro[Int.toNat n4]? = some [.ii 0] := by
   rw [hro, hn4]; exact fill_at _ _ _ (by omega)
  have hset : fill eInt [.ii 0] xs (i + 1) = ro.set (Int.toNat n4) [.ii x2] := by
   rw [hro, hn4]; exact (fill_set eInt _ xs a2).symm
  obtain ⟨ro2, b4⟩ : ∃ r, r = fill eInt [.ii 0] xs (i + 1) := ⟨_, rfl⟩
  rw [← b4] at hset
  refine ops_step rfl rfl (sto_arr (r := [.ii 0]) (cs := [.ii x2]) rfl rfl rfl rfl rfl ⟨_, _, rfl⟩ rfl rfl hz rfl hset) ?_
  refine od ?_
  refine gy hA 3 ?_
  refine ⟨(S60_1 a0 (A.num .add .i64 n4 1) ro2), List.length xs - (i + 1), ?_, by cbv, i + 1, ro2, (A.num .add .i64 n4 1), rfl, ?_, rfl⟩
  ·
   omega
  exact ⟨by rw [add_i64 hA (by omega) (by omega)]; omega, by omega, b4⟩
 have ec1 : (A.rlen a0) ≤ n4 := lss_f hA c1
 refine go_exit ⟨fun _ => ?_, fun h => absurd rfl h⟩
 refine gx hA 2 ?_
 refine go_ret ⟨_, by cbv, ?_⟩
 show _ = (PV.ow 1 ro)
 refine congrArg (PV.ow 1) ?_
 rw [hro, fill_all _ _ _ (by omega)]
theorem r_laws_toStore (A : Alg) (hA : A = std) (x : GStore) (hk : ∀ k ∈ zsStore x, k ≤ 1048576) : Real Tryz.prog 30 [.agg (eStore x)] (.agg (eoStore x)) := by
 obtain ⟨⟨⟨f3, i0⟩, j6, r2, d5, d7, g4, c5⟩, u9⟩ := x
 obtain ⟨j0, c9⟩ := nm (f3.map eString)
 have x3 := rlen_map hA c9
 obtain ⟨k9, e7⟩ := nm (i0.map eWrite)
 have x6 := rlen_map hA e7
 obtain ⟨s5, l7⟩ := nm (r2.map eSeg)
 have C8 := rlen_map hA l7
 obtain ⟨v0, r0⟩ := nm (u9.map eInt)
 have E3 := rlen_map hA r0
 refine real_args (args' := [.agg [.sl 1 j0, .sl 2 k9, .ii j6, .sl 4 s5, .ii d5, .ii d7, .ii g4, .ii c5, .sl 1 v0]]) (by subst c9 e7 l7 r0; rfl) ?_
 refine real tyOk Tryz.func30 (by kernel_rfl) (afun_of rfl ?_)
 refine gx hA 2 ?_
 refine gx hA 1 ?_
 refine gs (gr (rn hA 2 ?_))
 obtain ⟨c8, e9, o4, l1, n9, u3, hc2⟩ : ∃ (c8 : RR) (e9 : RR) (o4 : RR), c8 = List.map eString f3 ∧ e9 = List.map eoWrite i0 ∧ o4 = List.map eoSeg r2 ∧ Real Tryz.prog 59 [.agg [.sl 1 j0, .sl 2 k9, .ii j6, .sl 4 s5, .ii d5, .ii d7, .ii g4, .ii c5]] (.agg [.ow 1 c8, .ow 2 e9, .ii j6, .ow 4 o4, .ii d5, .ii d7, .ii g4, .ii c5]) := ⟨_, _, _, rfl, rfl, rfl, by subst c9 e7 l7; exact r_laws_toLog A hA (⟨⟨f3, i0⟩, j6, r2, d5, d7, g4, c5⟩ : GLog) (fun k h => hk k (by simp only [zsStore, List.mem_append]; simp only [h, true_or, or_true]))⟩
 have y9 := rlen_map hA l1
 have B0 := rlen_map hA n9
 have E6 := rlen_map hA u3
 refine ops_callV rfl rfl (by cbv) (by cbv) hc2 (.inr rfl) (by cbv) ?_
 refine rz hA 2 ?_
 refine gs (gr (rn hA 2 ?_))
 obtain ⟨e8, k8, hc4⟩ : ∃ (e8 : RR), e8 = List.map eInt u9 ∧ Real Tryz.prog 60 [.sl 1 v0] (.ow 1 e8) := ⟨_, rfl, by subst r0; exact r_laws_toIntS A hA u9 (fun k h => hk k (by simp only [zsStore, List.mem_append]; simp only [h, true_or, or_true]))⟩
 have y5 := rlen_map hA k8
 refine ops_callV rfl rfl (by cbv) (by cbv) hc4 (.inr rfl) (by cbv) ?_
 refine rz hA 2 ?_
 refine gx hA 2 ?_
 refine go_ret ⟨_, by cbv, ?_⟩
 show _ = (PV.agg [.ow 1 c8, .ow 2 e9, .ii j6, .ow 4 o4, .ii d5, .ii d7, .ii g4, .ii c5, .ow 1 e8])
 subst l1 n9 u3 k8
 rfl
theorem r_laws_toBring (A : Alg) (hA : A = std) (x : GBring) (hk : ∀ k ∈ zsBring x, k ≤ 1048576) : Real Tryz.prog 107 [.agg (eBring x)] (.agg (eoBring x)) := by
 obtain ⟨i5, y4, z6, w7⟩ := x
 obtain ⟨y7, u6⟩ := nm (z6.map eString)
 have F3 := rlen_map hA u6
 obtain ⟨w2, s2⟩ := nm (w7.map eString)
 have E8 := rlen_map hA s2
 refine real_args (args' := [.agg [.ii i5, .str y4, .sl 1 y7, .sl 1 w2]]) (by subst u6 s2; rfl) ?_
 refine real tyOk Tryz.func107 (by kernel_rfl) (afun_of rfl ?_)
 refine gx hA 2 ?_
 refine gx hA 1 ?_
 refine gx hA 4 ?_
 refine gx hA 4 ?_
 refine gs (gr (rn hA 2 ?_))
 obtain ⟨n0, s9, hc2⟩ : ∃ (n0 : RR), n0 = List.map eString z6 ∧ Real Tryz.prog 145 [.sl 1 y7] (.ow 1 n0) := ⟨_, rfl, by subst u6; exact r_laws_toStringS A hA z6 (fun k h => hk k (by simp only [zsBring, List.mem_append]; simp only [h, true_or, or_true]))⟩
 have C9 := rlen_map hA s9
 refine ops_callV rfl rfl (by cbv) (by cbv) hc2 (.inr rfl) (by cbv) ?_
 refine rz hA 2 ?_
 refine gs (gr (rn hA 2 ?_))
 obtain ⟨m7, s4, hc4⟩ : ∃ (m7 : RR), m7 = List.map eString w7 ∧ Real Tryz.prog 145 [.sl 1 w2] (.ow 1 m7) := ⟨_, rfl, by subst s2; exact r_laws_toStringS A hA w7 (fun k h => hk k (by simp only [zsBring, List.mem_append]; simp only [h, true_or, or_true]))⟩
 have D1 := rlen_map hA s4
 refine ops_callV rfl rfl (by cbv) (by cbv) hc4 (.inr rfl) (by cbv) ?_
 refine rz hA 2 ?_
 refine gx hA 2 ?_
 refine go_ret ⟨_, by cbv, ?_⟩
 show _ = (PV.agg [.ii i5, .str y4, .ow 1 n0, .ow 1 m7])
 subst s9 s4
 rfl
theorem r_laws_toMail (A : Alg) (hA : A = std) (x : GMail) (hk : ∀ k ∈ zsMail x, k ≤ 1048576) : Real Tryz.prog 183 [.agg (eMail x)] (.agg (eoMail x)) := by
 obtain ⟨u2, q6, k6⟩ := x
 refine real_args (args' := [.agg [.ii u2, .ii q6, .str k6]]) (by rfl) ?_
 refine real tyOk Tryz.func183 (by kernel_rfl) (afun_of rfl ?_)
 refine gx hA 2 ?_
 refine gx hA 1 ?_
 refine gx hA 4 ?_
 refine gx hA 4 ?_
 refine gx hA 4 ?_
 refine gx hA 2 ?_
 refine go_ret ⟨_, by cbv, ?_⟩
 show _ = (PV.agg [.ii u2, .ii q6, .str k6])
 rfl
def S148_1 (p0 : RR) (p1 : Int) (p2 : RR) : St := { sl := [.sl 3 p0, .bad, .bad, .own 7, .ii p1, .bad, .bad, .bad, .bad, .bad, .bad, .bad, .bad, .bad, .bad, .bad, .bad, .bad, .bad, .bad, .bad, .bad, .bad], bl := [(7, ⟨.arr, 3, p2⟩)] }
theorem r_laws_toMailS (A : Alg) (hA : A = std) (xs : List GMail) (hk : ∀ k ∈ zsMailS xs, k ≤ 1048576) : Real Tryz.prog 148 [.sl 3 (List.map eMail xs)] (.ow 3 (List.map eoMail xs)) := by
 obtain ⟨a0, a1⟩ := nm (xs.map eMail)
 have d4 := rlen_map hA a1
 refine real_args (args' := [.sl 3 a0]) (by subst a1; rfl) ?_
 have hlen : List.length xs ≤ 1048576 := hk _ (by simp [zsMailS])
 refine real tyOk Tryz.func148 (by kernel_rfl) (afun_of rfl ?_)
 refine gx hA 1 ?_
 refine gs (gr (rn hA 2 ?_))
 obtain ⟨rm, hrm⟩ := nm (List.replicate (Int.toNat (A.rlen a0)) [.ii 0, .ii 0, .str ByteArray.empty] : RR)
 have hn0 : (0 : Int) ≤ A.rlen a0 := by omega
 have hmax : A.rlen a0 * 32 ≤ 140737488355328 := by omega
 refine ops_step rfl rfl (mk_arr rfl rfl rfl rfl rfl rfl hn0 hmax (by decide) (by decide) rfl hrm) ?_
 refine rz hA 1 ?_
 refine gs (gx hA 1 ?_)
 refine go_block ?_
 refine go_loopE (fun σ m => ∃ (i : Nat) (ro : RR) (n4 : Int), σ = (S148_1 a0 n4 ro) ∧ (n4 = (i : Int) ∧ i ≤ List.length xs ∧ ro = fill eoMail [.ii 0, .ii 0, .str ByteArray.empty] xs i) ∧ m = List.length xs - i) _ [] [0, 3, 4] [7] (S148_1 a0 0 rm) rfl (by cbv) ⟨0, rm, 0, rfl, ?_, rfl⟩ (fun σ m hI => ?_)
 ·
  exact ⟨rfl, Nat.zero_le _, by rw [hrm, fill_zero, d4]; rfl⟩
 obtain ⟨i, ro, n4, rfl, ⟨hn4, hi, hro⟩, rfl⟩ := hI
 refine gs (gx hA 4 ?_)
 refine go_cond rfl (fun c1 => ?_) (fun c1 => ?_)
 ·
  have ec1 : n4 < (A.rlen a0) := lss_t hA c1
  refine gk (gs ?_)
  refine go_block ?_
  refine gr (rn hA 4 ?_)
  have i2 : (0 : Int) ≤ n4 := by
   omega
  have i1 : (Int.toNat n4) < List.length xs := by
   omega
  obtain ⟨x2, hx2⟩ : ∃ x, (xs)[(Int.toNat n4)]? = some x := ⟨_, List.getElem?_eq_getElem i1⟩
  have m1 := List.mem_of_getElem? hx2
  obtain ⟨q5, k0, b3⟩ := x2
  have g9 : a0[(Int.toNat n4)]? = some [.ii q5, .ii k0, .str b3] := by
   exact map_at eMail a1 hx2
  have hkx := fun (k : Nat) h => hk k (List.mem_cons_of_mem _ (List.mem_flatMap.2 ⟨_, m1, h⟩))
  refine ops_step rfl rfl (idx_sl rfl rfl rfl rfl rfl i2 rfl g9) ?_
  refine rn hA 1 ?_
  have hc4 : Real Tryz.prog 183 [.agg [.ii q5, .ii k0, .str b3]] (.agg [.ii q5, .ii k0, .str b3]) := by exact r_laws_toMail A hA (⟨q5, k0, b3⟩ : GMail) hkx
  refine ops_callV rfl rfl (by cbv) (by cbv) hc4 (.inr rfl) (by cbv) ?_
  have hlo : n4 < (List.length ro : Int) := by
   rw [hro, fill_len _ _ _ hi]; omega
  refine ops_step rfl rfl (idx_own rfl rfl rfl rfl rfl rfl (by omega) hlo rfl) ?_
  have a2 := hx2
  rw [hn4] at a2
  have a2 : xs[i]? = some _ := a2
  have hz : ro[Int.toNat n4]? = some [.ii 0, .ii 0, .str ByteArray.empty] := by
   rw [hro, hn4]; exact fill_at _ _ _ (by omega)
  have hset : fill eoMail [.ii 0, .ii 0, .str ByteArray.empty] xs (i + 1) = ro.set (Int.toNat n4) [.ii q5, .ii k0, .str b3] := by
   rw [hro, hn4]; exact (fill_set eoMail _ xs a2).symm
  obtain ⟨ro2, b4⟩ : ∃ r, r = fill eoMail [.ii 0, .ii 0, .str ByteArray.empty] xs (i + 1) := ⟨_, rfl⟩
  rw [← b4] at hset
  refine ops_step rfl rfl (sto_arr (r := [.ii 0, .ii 0, .str ByteArray.empty]) (cs := [.ii q5, .ii k0, .str b3]) rfl rfl rfl rfl rfl ⟨_, _, rfl⟩ rfl rfl hz rfl hset) ?_
  refine od ?_
  refine gy hA 3 ?_
  refine ⟨(S148_1 a0 (A.num .add .i64 n4 1) ro2), List.length xs - (i + 1), ?_, by cbv, i + 1, ro2, (A.num .add .i64 n4 1), rfl, ?_, rfl⟩
  ·
   omega
  exact ⟨by rw [add_i64 hA (by omega) (by omega)]; omega, by omega, b4⟩
 have ec1 : (A.rlen a0) ≤ n4 := lss_f hA c1
 refine go_exit ⟨fun _ => ?_, fun h => absurd rfl h⟩
 refine gx hA 2 ?_
 refine go_ret ⟨_, by cbv, ?_⟩
 show _ = (PV.ow 3 ro)
 refine congrArg (PV.ow 3) ?_
 rw [hro, fill_all _ _ _ (by omega)]
def S149_1 (p0 : RR) (p1 : Int) (p2 : RR) : St := { sl := [.sl 1 p0, .bad, .bad, .own 7, .ii p1, .bad, .bad, .bad, .bad, .bad, .bad, .bad, .bad, .bad, .bad, .bad, .bad, .bad, .bad, .bad, .bad, .bad], bl := [(7, ⟨.arr, 1, p2⟩)] }
theorem r_laws_toBoolS (A : Alg) (hA : A = std) (xs : List Bool) (hk : ∀ k ∈ zsBoolS xs, k ≤ 1048576) : Real Tryz.prog 149 [.sl 1 (List.map eBool xs)] (.ow 1 (List.map eBool xs)) := by
 obtain ⟨a0, a1⟩ := nm (xs.map eBool)
 have d4 := rlen_map hA a1
 refine real_args (args' := [.sl 1 a0]) (by subst a1; rfl) ?_
 have hlen : List.length xs ≤ 1048576 := hk _ (by simp [zsBoolS])
 refine real tyOk Tryz.func149 (by kernel_rfl) (afun_of rfl ?_)
 refine gx hA 1 ?_
 refine gs (gr (rn hA 2 ?_))
 obtain ⟨rm, hrm⟩ := nm (List.replicate (Int.toNat (A.rlen a0)) [.bool false] : RR)
 have hn0 : (0 : Int) ≤ A.rlen a0 := by omega
 have hmax : A.rlen a0 * 1 ≤ 140737488355328 := by omega
 refine ops_step rfl rfl (mk_arr rfl rfl rfl rfl rfl rfl hn0 hmax (by decide) (by decide) rfl hrm) ?_
 refine rz hA 1 ?_
 refine gs (gx hA 1 ?_)
 refine go_block ?_
 refine go_loopE (fun σ m => ∃ (i : Nat) (ro : RR) (n4 : Int), σ = (S149_1 a0 n4 ro) ∧ (n4 = (i : Int) ∧ i ≤ List.length xs ∧ ro = fill eBool [.bool false] xs i) ∧ m = List.length xs - i) _ [] [0, 3, 4] [7] (S149_1 a0 0 rm) rfl (by cbv) ⟨0, rm, 0, rfl, ?_, rfl⟩ (fun σ m hI => ?_)
 ·
  exact ⟨rfl, Nat.zero_le _, by rw [hrm, fill_zero, d4]; rfl⟩
 obtain ⟨i, ro, n4, rfl, ⟨hn4, hi, hro⟩, rfl⟩ := hI
 refine gs (gx hA 4 ?_)
 refine go_cond rfl (fun c1 => ?_) (fun c1 => ?_)
 ·
  have ec1 : n4 < (A.rlen a0) := lss_t hA c1
  refine gk (gs ?_)
  refine go_block ?_
  refine gr (rn hA 4 ?_)
  have i2 : (0 : Int) ≤ n4 := by
   omega
  have i1 : (Int.toNat n4) < List.length xs := by
   omega
  obtain ⟨x2, hx2⟩ : ∃ x, (xs)[(Int.toNat n4)]? = some x := ⟨_, List.getElem?_eq_getElem i1⟩
  have m1 := List.mem_of_getElem? hx2
  have g9 : a0[(Int.toNat n4)]? = some [.bool x2] := by
   exact map_at eBool a1 hx2
  refine ops_step rfl rfl (idx_sl rfl rfl rfl rfl rfl i2 rfl g9) ?_
  refine rn hA 1 ?_
  have hlo : n4 < (List.length ro : Int) := by
   rw [hro, fill_len _ _ _ hi]; omega
  refine ops_step rfl rfl (idx_own rfl rfl rfl rfl rfl rfl (by omega) hlo rfl) ?_
  have a2 := hx2
  rw [hn4] at a2
  have a2 : xs[i]? = some _ := a2
  have hz : ro[Int.toNat n4]? = some [.bool false] := by
   rw [hro, hn4]; exact fill_at _ _ _ (by omega)
  have hset : fill eBool [.bool false] xs (i + 1) = ro.set (Int.toNat n4) [.bool x2] := by
   rw [hro, hn4]; exact (fill_set eBool _ xs a2).symm
  obtain ⟨ro2, b4⟩ : ∃ r, r = fill eBool [.bool false] xs (i + 1) := ⟨_, rfl⟩
  rw [← b4] at hset
  refine ops_step rfl rfl (sto_arr (r := [.bool false]) (cs := [.bool x2]) rfl rfl rfl rfl rfl ⟨_, _, rfl⟩ rfl rfl hz rfl hset) ?_
  refine od ?_
  refine gy hA 3 ?_
  refine ⟨(S149_1 a0 (A.num .add .i64 n4 1) ro2), List.length xs - (i + 1), ?_, by cbv, i + 1, ro2, (A.num .add .i64 n4 1), rfl, ?_, rfl⟩
  ·
   omega
  exact ⟨by rw [add_i64 hA (by omega) (by omega)]; omega, by omega, b4⟩
 have ec1 : (A.rlen a0) ≤ n4 := lss_f hA c1
 refine go_exit ⟨fun _ => ?_, fun h => absurd rfl h⟩
 refine gx hA 2 ?_
 refine go_ret ⟨_, by cbv, ?_⟩
 show _ = (PV.ow 1 ro)
 refine congrArg (PV.ow 1) ?_
 rw [hro, fill_all _ _ _ (by omega)]
theorem r_laws_toFetch (A : Alg) (hA : A = std) (x : GFetch) (hk : ∀ k ∈ zsFetch x, k ≤ 1048576) : Real Tryz.prog 108 [.agg (eFetch x)] (.agg (eoFetch x)) := by
 obtain ⟨i5, l0, u8, w5⟩ := x
 obtain ⟨v6, q7⟩ := nm (u8.map eMail)
 have E5 := rlen_map hA q7
 obtain ⟨w4, s6⟩ := nm (w5.map eBool)
 have E9 := rlen_map hA s6
 refine real_args (args' := [.agg [.ii i5, .str l0, .sl 3 v6, .sl 1 w4]]) (by subst q7 s6; rfl) ?_
 refine real tyOk Tryz.func108 (by kernel_rfl) (afun_of rfl ?_)
 refine gx hA 2 ?_
 refine gx hA 1 ?_
 refine gx hA 4 ?_
 refine gx hA 4 ?_
 refine gs (gr (rn hA 2 ?_))
 obtain ⟨n0, s9, hc2⟩ : ∃ (n0 : RR), n0 = List.map eoMail u8 ∧ Real Tryz.prog 148 [.sl 3 v6] (.ow 3 n0) := ⟨_, rfl, by subst q7; exact r_laws_toMailS A hA u8 (fun k h => hk k (by simp only [zsFetch, List.mem_append]; simp only [h, true_or, or_true]))⟩
 have C9 := rlen_map hA s9
 refine ops_callV rfl rfl (by cbv) (by cbv) hc2 (.inr rfl) (by cbv) ?_
 refine rz hA 2 ?_
 refine gs (gr (rn hA 2 ?_))
 obtain ⟨m7, s4, hc4⟩ : ∃ (m7 : RR), m7 = List.map eBool w5 ∧ Real Tryz.prog 149 [.sl 1 w4] (.ow 1 m7) := ⟨_, rfl, by subst s6; exact r_laws_toBoolS A hA w5 (fun k h => hk k (by simp only [zsFetch, List.mem_append]; simp only [h, true_or, or_true]))⟩
 have D1 := rlen_map hA s4
 refine ops_callV rfl rfl (by cbv) (by cbv) hc4 (.inr rfl) (by cbv) ?_
 refine rz hA 2 ?_
 refine gx hA 2 ?_
 refine go_ret ⟨_, by cbv, ?_⟩
 show _ = (PV.agg [.ii i5, .str l0, .ow 3 n0, .ow 1 m7])
 subst s9 s4
 rfl
theorem r_laws_toLook (A : Alg) (hA : A = std) (x : GLook) (hk : ∀ k ∈ zsLook x, k ≤ 1048576) : Real Tryz.prog 109 [.agg (eLook x)] (.agg (eoLook x)) := by
 obtain ⟨i5, l0, B7, p7, w8⟩ := x
 obtain ⟨w6, t0⟩ := nm (w8.map eInt)
 have F2 := rlen_map hA t0
 refine real_args (args' := [.agg [.ii i5, .str l0, .str B7, .ii p7, .sl 1 w6]]) (by subst t0; rfl) ?_
 refine real tyOk Tryz.func109 (by kernel_rfl) (afun_of rfl ?_)
 refine gx hA 2 ?_
 refine gx hA 1 ?_
 refine gx hA 4 ?_
 refine gx hA 4 ?_
 refine gx hA 4 ?_
 refine gx hA 4 ?_
 refine gs (gr (rn hA 2 ?_))
 obtain ⟨v9, x8, hc2⟩ : ∃ (v9 : RR), v9 = List.map eInt w8 ∧ Real Tryz.prog 60 [.sl 1 w6] (.ow 1 v9) := ⟨_, rfl, by subst t0; exact r_laws_toIntS A hA w8 (fun k h => hk k (by simp only [zsLook, List.mem_append]; simp only [h, true_or, or_true]))⟩
 have F4 := rlen_map hA x8
 refine ops_callV rfl rfl (by cbv) (by cbv) hc2 (.inr rfl) (by cbv) ?_
 refine rz hA 2 ?_
 refine gx hA 2 ?_
 refine go_ret ⟨_, by cbv, ?_⟩
 show _ = (PV.agg [.ii i5, .str l0, .str B7, .ii p7, .ow 1 v9])
 subst x8
 rfl
theorem r_laws_toSession (A : Alg) (hA : A = std) (x : GSession) (hk : ∀ k ∈ zsSession x, k ≤ 1048576) : Real Tryz.prog 61 [.agg (eSession x)] (.agg (eoSession x)) := by
 obtain ⟨s0, D5, B2, x9, ⟨d9, f2, r1, o1⟩, ⟨d6, f1, l9, n6⟩, ⟨f0, g1, j5, f4, p3⟩⟩ := x
 obtain ⟨s7, m0⟩ := nm (r1.map eString)
 have C5 := rlen_map hA m0
 obtain ⟨q4, i7⟩ := nm (o1.map eString)
 have C1 := rlen_map hA i7
 obtain ⟨o5, i4⟩ := nm (l9.map eMail)
 have z4 := rlen_map hA i4
 obtain ⟨q2, j7⟩ := nm (n6.map eBool)
 have B9 := rlen_map hA j7
 obtain ⟨r7, k1⟩ := nm (p3.map eInt)
 have C4 := rlen_map hA k1
 refine real_args (args' := [.agg [.ii s0, .str D5, .str B2, .bool x9, .ii d9, .str f2, .sl 1 s7, .sl 1 q4, .ii d6, .str f1, .sl 3 o5, .sl 1 q2, .ii f0, .str g1, .str j5, .ii f4, .sl 1 r7]]) (by subst m0 i7 i4 j7 k1; rfl) ?_
 refine real tyOk Tryz.func61 (by kernel_rfl) (afun_of rfl ?_)
 refine gx hA 2 ?_
 refine gx hA 1 ?_
 refine gx hA 4 ?_
 refine gx hA 4 ?_
 refine gx hA 4 ?_
 refine gx hA 4 ?_
 refine gs (gr (rn hA 2 ?_))
 obtain ⟨r4, m8, v1, t5, hc2⟩ : ∃ (r4 : RR) (m8 : RR), r4 = List.map eString r1 ∧ m8 = List.map eString o1 ∧ Real Tryz.prog 107 [.agg [.ii d9, .str f2, .sl 1 s7, .sl 1 q4]] (.agg [.ii d9, .str f2, .ow 1 r4, .ow 1 m8]) := ⟨_, _, rfl, rfl, by subst m0 i7; exact r_laws_toBring A hA (⟨d9, f2, r1, o1⟩ : GBring) (fun k h => hk k (by simp only [zsSession, List.mem_append]; simp only [h, true_or, or_true]))⟩
 have F0 := rlen_map hA v1
 have D9 := rlen_map hA t5
 refine ops_callV rfl rfl (by cbv) (by cbv) hc2 (.inr rfl) (by cbv) ?_
 refine rz hA 2 ?_
 refine gs (gr (rn hA 2 ?_))
 obtain ⟨k5, m4, r8, t9, hc4⟩ : ∃ (k5 : RR) (m4 : RR), k5 = List.map eoMail l9 ∧ m4 = List.map eBool n6 ∧ Real Tryz.prog 108 [.agg [.ii d6, .str f1, .sl 3 o5, .sl 1 q2]] (.agg [.ii d6, .str f1, .ow 3 k5, .ow 1 m4]) := ⟨_, _, rfl, rfl, by subst i4 j7; exact r_laws_toFetch A hA (⟨d6, f1, l9, n6⟩ : GFetch) (fun k h => hk k (by simp only [zsSession, List.mem_append]; simp only [h, true_or, or_true]))⟩
 have D4 := rlen_map hA r8
 have E0 := rlen_map hA t9
 refine ops_callV rfl rfl (by cbv) (by cbv) hc4 (.inr rfl) (by cbv) ?_
 refine rz hA 2 ?_
 refine gs (gr (rn hA 2 ?_))
 obtain ⟨m5, u0, hc6⟩ : ∃ (m5 : RR), m5 = List.map eInt p3 ∧ Real Tryz.prog 109 [.agg [.ii f0, .str g1, .str j5, .ii f4, .sl 1 r7]] (.agg [.ii f0, .str g1, .str j5, .ii f4, .ow 1 m5]) := ⟨_, rfl, by subst k1; exact r_laws_toLook A hA (⟨f0, g1, j5, f4, p3⟩ : GLook) (fun k h => hk k (by simp only [zsSession, List.mem_append]; simp only [h, true_or, or_true]))⟩
 have E2 := rlen_map hA u0
 refine ops_callV rfl rfl (by cbv) (by cbv) hc6 (.inr rfl) (by cbv) ?_
 refine rz hA 2 ?_
 refine gx hA 2 ?_
 refine go_ret ⟨_, by cbv, ?_⟩
 show _ = (PV.agg [.ii s0, .str D5, .str B2, .bool x9, .ii d9, .str f2, .ow 1 r4, .ow 1 m8, .ii d6, .str f1, .ow 3 k5, .ow 1 m4, .ii f0, .str g1, .str j5, .ii f4, .ow 1 m5])
 subst v1 t5 r8 t9 u0
 rfl
def S31_1 (p0 : RR) (p1 : Int) (p2 : RR) : St := { sl := [.sl 17 p0, .bad, .bad, .own 7, .ii p1, .bad, .bad, .bad, .bad, .bad, .bad, .bad, .bad, .bad, .bad, .bad, .bad, .bad, .bad, .bad, .bad, .bad, .bad], bl := [(7, ⟨.arr, 17, p2⟩)] }
theorem r_laws_toSessionS (A : Alg) (hA : A = std) (xs : List GSession) (hk : ∀ k ∈ zsSessionS xs, k ≤ 1048576) : Real Tryz.prog 31 [.sl 17 (List.map eSession xs)] (.ow 17 (List.map eoSession xs)) := by
 obtain ⟨a0, a1⟩ := nm (xs.map eSession)
 have d4 := rlen_map hA a1
 refine real_args (args' := [.sl 17 a0]) (by subst a1; rfl) ?_
 have hlen : List.length xs ≤ 1048576 := hk _ (by simp [zsSessionS])
 refine real tyOk Tryz.func31 (by kernel_rfl) (afun_of rfl ?_)
 refine gx hA 1 ?_
 refine gs (gr (rn hA 2 ?_))
 obtain ⟨rm, hrm⟩ := nm (List.replicate (Int.toNat (A.rlen a0)) [.ii 0, .str ByteArray.empty, .str ByteArray.empty, .bool false, .ii 0, .str ByteArray.empty, .zc, .zc, .ii 0, .str ByteArray.empty, .zc, .zc, .ii 0, .str ByteArray.empty, .str ByteArray.empty, .ii 0, .zc] : RR)
 have hn0 : (0 : Int) ≤ A.rlen a0 := by omega
 have hmax : A.rlen a0 * 264 ≤ 140737488355328 := by omega
 refine ops_step rfl rfl (mk_arr rfl rfl rfl rfl rfl rfl hn0 hmax (by decide) (by decide) rfl hrm) ?_
 refine rz hA 1 ?_
 refine gs (gx hA 1 ?_)
 refine go_block ?_
 refine go_loopE (fun σ m => ∃ (i : Nat) (ro : RR) (n4 : Int), σ = (S31_1 a0 n4 ro) ∧ (n4 = (i : Int) ∧ i ≤ List.length xs ∧ ro = fill eoSession [.ii 0, .str ByteArray.empty, .str ByteArray.empty, .bool false, .ii 0, .str ByteArray.empty, .zc, .zc, .ii 0, .str ByteArray.empty, .zc, .zc, .ii 0, .str ByteArray.empty, .str ByteArray.empty, .ii 0, .zc] xs i) ∧ m = List.length xs - i) _ [] [0, 3, 4] [7] (S31_1 a0 0 rm) rfl (by cbv) ⟨0, rm, 0, rfl, ?_, rfl⟩ (fun σ m hI => ?_)
 ·
  exact ⟨rfl, Nat.zero_le _, by rw [hrm, fill_zero, d4]; rfl⟩
 obtain ⟨i, ro, n4, rfl, ⟨hn4, hi, hro⟩, rfl⟩ := hI
 refine gs (gx hA 4 ?_)
 refine go_cond rfl (fun c1 => ?_) (fun c1 => ?_)
 ·
  have ec1 : n4 < (A.rlen a0) := lss_t hA c1
  refine gk (gs ?_)
  refine go_block ?_
  refine gr (rn hA 4 ?_)
  have i2 : (0 : Int) ≤ n4 := by
   omega
  have i1 : (Int.toNat n4) < List.length xs := by
   omega
  obtain ⟨x2, hx2⟩ : ∃ x, (xs)[(Int.toNat n4)]? = some x := ⟨_, List.getElem?_eq_getElem i1⟩
  have m1 := List.mem_of_getElem? hx2
  obtain ⟨n2, t2, p9, n1, ⟨b1, c2, p4, l8⟩, ⟨b2, c0, k3, l6⟩, ⟨c3, d3, e2, c4, n5⟩⟩ := x2
  obtain ⟨r6, k4⟩ := nm (p4.map eString)
  have C2 := rlen_map hA k4
  obtain ⟨o8, i3⟩ := nm (l8.map eString)
  have z5 := rlen_map hA i3
  obtain ⟨n3, f7⟩ := nm (k3.map eMail)
  have z1 := rlen_map hA f7
  obtain ⟨o7, g8⟩ := nm (l6.map eBool)
  have z9 := rlen_map hA g8
  obtain ⟨q0, j9⟩ := nm (n5.map eInt)
  have B8 := rlen_map hA j9
  have g9 : a0[(Int.toNat n4)]? = some [.ii n2, .str t2, .str p9, .bool n1, .ii b1, .str c2, .sl 1 r6, .sl 1 o8, .ii b2, .str c0, .sl 3 n3, .sl 1 o7, .ii c3, .str d3, .str e2, .ii c4, .sl 1 q0] := by
   subst k4 i3 f7 g8 j9; exact map_at eSession a1 hx2
  have hkx := fun (k : Nat) h => hk k (List.mem_cons_of_mem _ (List.mem_flatMap.2 ⟨_, m1, h⟩))
  refine ops_step rfl rfl (idx_sl rfl rfl rfl rfl rfl i2 rfl g9) ?_
  refine rn hA 1 ?_
  obtain ⟨d0, b5, a8, b7, c6, o3, m3, k7, m2, n8, hc4⟩ : ∃ (d0 : RR) (b5 : RR) (a8 : RR) (b7 : RR) (c6 : RR), d0 = List.map eString p4 ∧ b5 = List.map eString l8 ∧ a8 = List.map eoMail k3 ∧ b7 = List.map eBool l6 ∧ c6 = List.map eInt n5 ∧ Real Tryz.prog 61 [.agg [.ii n2, .str t2, .str p9, .bool n1, .ii b1, .str c2, .sl 1 r6, .sl 1 o8, .ii b2, .str c0, .sl 3 n3, .sl 1 o7, .ii c3, .str d3, .str e2, .ii c4, .sl 1 q0]] (.agg [.ii n2, .str t2, .str p9, .bool n1, .ii b1, .str c2, .ow 1 d0, .ow 1 b5, .ii b2, .str c0, .ow 3 a8, .ow 1 b7, .ii c3, .str d3, .str e2, .ii c4, .ow 1 c6]) := ⟨_, _, _, _, _, rfl, rfl, rfl, rfl, rfl, by subst k4 i3 f7 g8 j9; exact r_laws_toSession A hA (⟨n2, t2, p9, n1, ⟨b1, c2, p4, l8⟩, ⟨b2, c0, k3, l6⟩, ⟨c3, d3, e2, c4, n5⟩⟩ : GSession) hkx⟩
  have C0 := rlen_map hA o3
  have z0 := rlen_map hA m3
  have y3 := rlen_map hA k7
  have z3 := rlen_map hA m2
  have z8 := rlen_map hA n8
  refine ops_callV rfl rfl (by cbv) (by cbv) hc4 (.inr rfl) (by cbv) ?_
  have hlo : n4 < (List.length ro : Int) := by
   rw [hro, fill_len _ _ _ hi]; omega
  refine ops_step rfl rfl (idx_own rfl rfl rfl rfl rfl rfl (by omega) hlo rfl) ?_
  have a2 := hx2
  rw [hn4] at a2
  have a2 : xs[i]? = some _ := a2
  have hz : ro[Int.toNat n4]? = some [.ii 0, .str ByteArray.empty, .str ByteArray.empty, .bool false, .ii 0, .str ByteArray.empty, .zc, .zc, .ii 0, .str ByteArray.empty, .zc, .zc, .ii 0, .str ByteArray.empty, .str ByteArray.empty, .ii 0, .zc] := by
   rw [hro, hn4]; exact fill_at _ _ _ (by omega)
  have hset : fill eoSession [.ii 0, .str ByteArray.empty, .str ByteArray.empty, .bool false, .ii 0, .str ByteArray.empty, .zc, .zc, .ii 0, .str ByteArray.empty, .zc, .zc, .ii 0, .str ByteArray.empty, .str ByteArray.empty, .ii 0, .zc] xs (i + 1) = ro.set (Int.toNat n4) [.ii n2, .str t2, .str p9, .bool n1, .ii b1, .str c2, .ow 1 d0, .ow 1 b5, .ii b2, .str c0, .ow 3 a8, .ow 1 b7, .ii c3, .str d3, .str e2, .ii c4, .ow 1 c6] := by
   rw [hro, hn4]; subst o3 m3 k7 m2 n8; exact (fill_set eoSession _ xs a2).symm
  obtain ⟨ro2, b4⟩ : ∃ r, r = fill eoSession [.ii 0, .str ByteArray.empty, .str ByteArray.empty, .bool false, .ii 0, .str ByteArray.empty, .zc, .zc, .ii 0, .str ByteArray.empty, .zc, .zc, .ii 0, .str ByteArray.empty, .str ByteArray.empty, .ii 0, .zc] xs (i + 1) := ⟨_, rfl⟩
  rw [← b4] at hset
  refine ops_step rfl rfl (sto_arr (r := [.ii 0, .str ByteArray.empty, .str ByteArray.empty, .bool false, .ii 0, .str ByteArray.empty, .zc, .zc, .ii 0, .str ByteArray.empty, .zc, .zc, .ii 0, .str ByteArray.empty, .str ByteArray.empty, .ii 0, .zc]) (cs := [.ii n2, .str t2, .str p9, .bool n1, .ii b1, .str c2, .ow 1 d0, .ow 1 b5, .ii b2, .str c0, .ow 3 a8, .ow 1 b7, .ii c3, .str d3, .str e2, .ii c4, .ow 1 c6]) rfl rfl rfl rfl rfl ⟨_, _, rfl⟩ rfl rfl hz rfl hset) ?_
  refine od ?_
  refine gy hA 3 ?_
  refine ⟨(S31_1 a0 (A.num .add .i64 n4 1) ro2), List.length xs - (i + 1), ?_, by cbv, i + 1, ro2, (A.num .add .i64 n4 1), rfl, ?_, rfl⟩
  ·
   omega
  exact ⟨by rw [add_i64 hA (by omega) (by omega)]; omega, by omega, b4⟩
 have ec1 : (A.rlen a0) ≤ n4 := lss_f hA c1
 refine go_exit ⟨fun _ => ?_, fun h => absurd rfl h⟩
 refine gx hA 2 ?_
 refine go_ret ⟨_, by cbv, ?_⟩
 show _ = (PV.ow 17 ro)
 refine congrArg (PV.ow 17) ?_
 rw [hro, fill_all _ _ _ (by omega)]
theorem r_laws_toServer (A : Alg) (hA : A = std) (x : GServer) (hk : ∀ k ∈ zsServer x, k ≤ 1048576) : Real Tryz.prog 9 [.agg (eServer x)] (.agg (eoServer x)) := by
 obtain ⟨⟨⟨⟨b6, c7⟩, b8, g6, a4, a5, a9, a3⟩, l5⟩, q8⟩ := x
 obtain ⟨d8, a6⟩ := nm (b6.map eString)
 have v5 := rlen_map hA a6
 obtain ⟨f5, b0⟩ := nm (c7.map eWrite)
 have v8 := rlen_map hA b0
 obtain ⟨l2, e6⟩ := nm (g6.map eSeg)
 have x7 := rlen_map hA e6
 obtain ⟨o6, g7⟩ := nm (l5.map eInt)
 have z7 := rlen_map hA g7
 obtain ⟨s3, l4⟩ := nm (q8.map eSession)
 have C6 := rlen_map hA l4
 refine real_args (args' := [.agg [.sl 1 d8, .sl 2 f5, .ii b8, .sl 4 l2, .ii a4, .ii a5, .ii a9, .ii a3, .sl 1 o6, .sl 17 s3]]) (by subst a6 b0 e6 g7 l4; rfl) ?_
 refine real tyOk Tryz.func9 (by kernel_rfl) (afun_of rfl ?_)
 refine gx hA 2 ?_
 refine gx hA 1 ?_
 refine gs (gr (rn hA 2 ?_))
 obtain ⟨a7, b9, g5, m9, g2, j1, q3, t8, hc2⟩ : ∃ (a7 : RR) (b9 : RR) (g5 : RR) (m9 : RR), a7 = List.map eString b6 ∧ b9 = List.map eoWrite c7 ∧ g5 = List.map eoSeg g6 ∧ m9 = List.map eInt l5 ∧ Real Tryz.prog 30 [.agg [.sl 1 d8, .sl 2 f5, .ii b8, .sl 4 l2, .ii a4, .ii a5, .ii a9, .ii a3, .sl 1 o6]] (.agg [.ow 1 a7, .ow 2 b9, .ii b8, .ow 4 g5, .ii a4, .ii a5, .ii a9, .ii a3, .ow 1 m9]) := ⟨_, _, _, _, rfl, rfl, rfl, rfl, by subst a6 b0 e6 g7; exact r_laws_toStore A hA (⟨⟨⟨b6, c7⟩, b8, g6, a4, a5, a9, a3⟩, l5⟩ : GStore) (fun k h => hk k (by simp only [zsServer, List.mem_append]; simp only [h, true_or, or_true]))⟩
 have x0 := rlen_map hA g2
 have x4 := rlen_map hA j1
 have C3 := rlen_map hA q3
 have D7 := rlen_map hA t8
 refine ops_callV rfl rfl (by cbv) (by cbv) hc2 (.inr rfl) (by cbv) ?_
 refine rz hA 2 ?_
 refine gs (gr (rn hA 2 ?_))
 obtain ⟨e8, k8, hc4⟩ : ∃ (e8 : RR), e8 = List.map eoSession q8 ∧ Real Tryz.prog 31 [.sl 17 s3] (.ow 17 e8) := ⟨_, rfl, by subst l4; exact r_laws_toSessionS A hA q8 (fun k h => hk k (by simp only [zsServer, List.mem_append]; simp only [h, true_or, or_true]))⟩
 have y5 := rlen_map hA k8
 refine ops_callV rfl rfl (by cbv) (by cbv) hc4 (.inr rfl) (by cbv) ?_
 refine rz hA 2 ?_
 refine gx hA 2 ?_
 refine go_ret ⟨_, by cbv, ?_⟩
 show _ = (PV.agg [.ow 1 a7, .ow 2 b9, .ii b8, .ow 4 g5, .ii a4, .ii a5, .ii a9, .ii a3, .ow 1 m9, .ow 17 e8])
 subst g2 j1 q3 t8 k8
 rfl
end Go.Av

/- Walks: to of servers. -/
import Derived.Test.YtjbokkoiicoahaaGreatTy
namespace Go.Av
open Go Go.Proofs
set_option maxRecDepth 100000
set_option maxHeartbeats 4000000
set_option linter.unusedVariables false
set_option linter.unusedSimpArgs false
def S145_1 (p0 : RR) (p1 : Int) (p2 : RR) : St := { sl := [.sl 1 p0, .bad, .bad, .own 7, .int .i64 p1, .bad, .bad, .bad, .bad, .bad, .bad, .bad, .bad, .bad, .bad, .bad, .bad, .bad, .bad, .bad, .bad, .bad], bl := [(7, ⟨.arr, 1, p2⟩)] }
theorem r_laws_toStringS (A : Alg) (hA : A = std) (xs : List ByteArray) (hk : ∀ k ∈ zsStringS xs, k ≤ 1048576) : Real Tryz.prog 145 [.sl 1 (List.map eString xs)] (.ow 1 (List.map eString xs)) := by
 obtain ⟨a0, a2⟩ := nm (xs.map eString)
 have d4 := rlen_map hA a2
 refine real_args (args' := [.sl 1 a0]) (by subst a2; rfl) ?_
 have hlen : List.length xs ≤ 1048576 := hk _ (by simp [zsStringS])
 refine real tyOk Tryz.func145 (by kernel_rfl) (afun_of rfl ?_)
 refine gs (gr (ra hA 1 (by cbv) (od ?_)))
 refine gs (gr (ra hA 2 (by cbv) ?_))
 obtain ⟨rm, hrm⟩ := nm (List.replicate (Int.toNat (A.rlen a0)) [.str ByteArray.empty] : RR)
 have hn0 : (0 : Int) ≤ A.rlen a0 := by omega
 have hmax : A.rlen a0 * 16 ≤ 140737488355328 := by omega
 refine ops_step rfl rfl (mk_arr rfl rfl rfl rfl rfl rfl hn0 hmax (by decide) (by decide) rfl hrm) ?_
 refine ra hA 1 (by cbv) (od ?_)
 refine gs (gs (gr (ra hA 1 (by cbv) (od ?_))))
 refine go_block ?_
 refine go_loopE (fun σ m => ∃ (i : Nat) (ro : RR) (n4 : Int), σ = (S145_1 a0 n4 ro) ∧ (n4 = (i : Int) ∧ i ≤ List.length xs ∧ ro = fill eString [.str ByteArray.empty] xs i) ∧ m = List.length xs - i) _ [] [0, 3, 4] [7] (S145_1 a0 0 rm) rfl (by cbv) ⟨0, rm, 0, rfl, ?_, rfl⟩ (fun σ m hI => ?_)
 ·
  exact ⟨rfl, Nat.zero_le _, by rw [hrm, fill_zero, d4]; rfl⟩
 obtain ⟨i, ro, n4, rfl, ⟨hn4, hi, hro⟩, rfl⟩ := hI
 refine gs (gs (gr (ra hA 4 (by cbv) (od ?_))))
 refine go_cond rfl (fun c1 => ?_) (fun c1 => ?_)
 ·
  have ec1 : n4 < (A.rlen a0) := lss_t hA c1
  refine gk (gs ?_)
  refine go_block ?_
  refine gr (ra hA 4 (by cbv) ?_)
  have g6 : (0 : Int) ≤ n4 := by
   omega
  have i0 : (Int.toNat n4) < List.length xs := by
   omega
  obtain ⟨x2, hx2⟩ : ∃ x, (xs)[(Int.toNat n4)]? = some x := ⟨_, List.getElem?_eq_getElem i0⟩
  have l9 := List.mem_of_getElem? hx2
  have g9 : a0[(Int.toNat n4)]? = some [.str x2] := by
   exact map_at eString a2 hx2
  refine ops_step rfl rfl (idx_sl rfl rfl rfl rfl rfl g6 rfl g9) ?_
  refine ra hA 1 (by cbv) ?_
  have hlo : n4 < (List.length ro : Int) := by
   rw [hro, fill_len _ _ _ hi]; omega
  refine ops_step rfl rfl (idx_own rfl rfl rfl rfl rfl rfl (by omega) hlo rfl) ?_
  have a1 := hx2
  rw [hn4] at a1
  have a1 : xs[i]? = some _ := a1
  have hz : ro[Int.toNat n4]? = some [.str ByteArray.empty] := by
   rw [hro, hn4]; exact fill_at _ _ _ (by omega)
  have hset : fill eString [.str ByteArray.empty] xs (i + 1) = ro.set (Int.toNat n4) [.str x2] := by
   rw [hro, hn4]; exact (fill_set eString _ xs a1).symm
  obtain ⟨ro2, b5⟩ : ∃ r, r = fill eString [.str ByteArray.empty] xs (i + 1) := ⟨_, rfl⟩
  rw [← b5] at hset
  refine ops_step rfl rfl (sto_arr (r := [.str ByteArray.empty]) (cs := [.str x2]) rfl rfl rfl rfl rfl ⟨_, _, rfl⟩ rfl rfl hz rfl hset) ?_
  refine od ?_
  refine gr (ra hA 3 (by cbv) (od ?_))
  refine ⟨(S145_1 a0 (A.num .add .i64 n4 1) ro2), List.length xs - (i + 1), ?_, by cbv, i + 1, ro2, (A.num .add .i64 n4 1), rfl, ?_, rfl⟩
  ·
   omega
  ·
   exact ⟨by rw [add_i64 hA (by omega) (by omega)]; omega, by omega, b5⟩
 ·
  have ec1 : (A.rlen a0) ≤ n4 := lss_f hA c1
  refine go_exit ⟨fun _ => ?_, fun h => absurd rfl h⟩
  refine gs (gr (ra hA 2 (by cbv) (od ?_)))
  refine go_ret ⟨_, by cbv, ?_⟩
  show _ = (PV.ow 1 ro)
  refine congrArg (PV.ow 1) ?_
  rw [hro, fill_all _ _ _ (by omega)]
theorem r_laws_toWrite (A : Alg) (hA : A = std) (x : GWrite) (hk : ∀ k ∈ zsWrite x, k ≤ 1048576) : Real Tryz.prog 181 [.agg (eWrite x)] (.agg (eoWrite x)) := by
 obtain ⟨D3, k8⟩ := x
 refine real_args (args' := [.agg [.int .i64 D3, .str k8]]) (by rfl) ?_
 refine real tyOk Tryz.func181 (by kernel_rfl) (afun_of rfl ?_)
 refine gs (gr (ra hA 2 (by cbv) (od ?_)))
 refine gs (gr (ra hA 1 (by cbv) (od ?_)))
 refine gs (gr (ra hA 4 (by cbv) (od ?_)))
 refine gs (gr (ra hA 4 (by cbv) (od ?_)))
 refine gs (gr (ra hA 2 (by cbv) (od ?_)))
 refine go_ret ⟨_, by cbv, ?_⟩
 show _ = (PV.agg [.int .i64 D3, .str k8])
 rfl
def S146_1 (p0 : RR) (p1 : Int) (p2 : RR) : St := { sl := [.sl 2 p0, .bad, .bad, .own 7, .int .i64 p1, .bad, .bad, .bad, .bad, .bad, .bad, .bad, .bad, .bad, .bad, .bad, .bad, .bad, .bad, .bad, .bad, .bad, .bad], bl := [(7, ⟨.arr, 2, p2⟩)] }
theorem r_laws_toWriteS (A : Alg) (hA : A = std) (xs : List GWrite) (hk : ∀ k ∈ zsWriteS xs, k ≤ 1048576) : Real Tryz.prog 146 [.sl 2 (List.map eWrite xs)] (.ow 2 (List.map eoWrite xs)) := by
 obtain ⟨a0, a2⟩ := nm (xs.map eWrite)
 have d4 := rlen_map hA a2
 refine real_args (args' := [.sl 2 a0]) (by subst a2; rfl) ?_
 have hlen : List.length xs ≤ 1048576 := hk _ (by simp [zsWriteS])
 refine real tyOk Tryz.func146 (by kernel_rfl) (afun_of rfl ?_)
 refine gs (gr (ra hA 1 (by cbv) (od ?_)))
 refine gs (gr (ra hA 2 (by cbv) ?_))
 obtain ⟨rm, hrm⟩ := nm (List.replicate (Int.toNat (A.rlen a0)) [.int .i64 0, .str ByteArray.empty] : RR)
 have hn0 : (0 : Int) ≤ A.rlen a0 := by omega
 have hmax : A.rlen a0 * 24 ≤ 140737488355328 := by omega
 refine ops_step rfl rfl (mk_arr rfl rfl rfl rfl rfl rfl hn0 hmax (by decide) (by decide) rfl hrm) ?_
 refine ra hA 1 (by cbv) (od ?_)
 refine gs (gs (gr (ra hA 1 (by cbv) (od ?_))))
 refine go_block ?_
 refine go_loopE (fun σ m => ∃ (i : Nat) (ro : RR) (n4 : Int), σ = (S146_1 a0 n4 ro) ∧ (n4 = (i : Int) ∧ i ≤ List.length xs ∧ ro = fill eoWrite [.int .i64 0, .str ByteArray.empty] xs i) ∧ m = List.length xs - i) _ [] [0, 3, 4] [7] (S146_1 a0 0 rm) rfl (by cbv) ⟨0, rm, 0, rfl, ?_, rfl⟩ (fun σ m hI => ?_)
 ·
  exact ⟨rfl, Nat.zero_le _, by rw [hrm, fill_zero, d4]; rfl⟩
 obtain ⟨i, ro, n4, rfl, ⟨hn4, hi, hro⟩, rfl⟩ := hI
 refine gs (gs (gr (ra hA 4 (by cbv) (od ?_))))
 refine go_cond rfl (fun c1 => ?_) (fun c1 => ?_)
 ·
  have ec1 : n4 < (A.rlen a0) := lss_t hA c1
  refine gk (gs ?_)
  refine go_block ?_
  refine gr (ra hA 4 (by cbv) ?_)
  have g6 : (0 : Int) ≤ n4 := by
   omega
  have i0 : (Int.toNat n4) < List.length xs := by
   omega
  obtain ⟨x2, hx2⟩ : ∃ x, (xs)[(Int.toNat n4)]? = some x := ⟨_, List.getElem?_eq_getElem i0⟩
  have l9 := List.mem_of_getElem? hx2
  obtain ⟨t2, b3⟩ := x2
  have g9 : a0[(Int.toNat n4)]? = some [.int .i64 t2, .str b3] := by
   exact map_at eWrite a2 hx2
  have hkx := fun (k : Nat) h => hk k (List.mem_cons_of_mem _ (List.mem_flatMap.2 ⟨_, l9, h⟩))
  refine ops_step rfl rfl (idx_sl rfl rfl rfl rfl rfl g6 rfl g9) ?_
  refine ra hA 1 (by cbv) ?_
  have hc4 : Real Tryz.prog 181 [.agg [.int .i64 t2, .str b3]] (.agg [.int .i64 t2, .str b3]) := by exact r_laws_toWrite A hA (⟨t2, b3⟩ : GWrite) hkx
  refine ops_callV rfl rfl (by cbv) (by cbv) hc4 (.inr rfl) (by cbv) ?_
  have hlo : n4 < (List.length ro : Int) := by
   rw [hro, fill_len _ _ _ hi]; omega
  refine ops_step rfl rfl (idx_own rfl rfl rfl rfl rfl rfl (by omega) hlo rfl) ?_
  have a1 := hx2
  rw [hn4] at a1
  have a1 : xs[i]? = some _ := a1
  have hz : ro[Int.toNat n4]? = some [.int .i64 0, .str ByteArray.empty] := by
   rw [hro, hn4]; exact fill_at _ _ _ (by omega)
  have hset : fill eoWrite [.int .i64 0, .str ByteArray.empty] xs (i + 1) = ro.set (Int.toNat n4) [.int .i64 t2, .str b3] := by
   rw [hro, hn4]; exact (fill_set eoWrite _ xs a1).symm
  obtain ⟨ro2, b5⟩ : ∃ r, r = fill eoWrite [.int .i64 0, .str ByteArray.empty] xs (i + 1) := ⟨_, rfl⟩
  rw [← b5] at hset
  refine ops_step rfl rfl (sto_arr (r := [.int .i64 0, .str ByteArray.empty]) (cs := [.int .i64 t2, .str b3]) rfl rfl rfl rfl rfl ⟨_, _, rfl⟩ rfl rfl hz rfl hset) ?_
  refine od ?_
  refine gr (ra hA 3 (by cbv) (od ?_))
  refine ⟨(S146_1 a0 (A.num .add .i64 n4 1) ro2), List.length xs - (i + 1), ?_, by cbv, i + 1, ro2, (A.num .add .i64 n4 1), rfl, ?_, rfl⟩
  ·
   omega
  ·
   exact ⟨by rw [add_i64 hA (by omega) (by omega)]; omega, by omega, b5⟩
 ·
  have ec1 : (A.rlen a0) ≤ n4 := lss_f hA c1
  refine go_exit ⟨fun _ => ?_, fun h => absurd rfl h⟩
  refine gs (gr (ra hA 2 (by cbv) (od ?_)))
  refine go_ret ⟨_, by cbv, ?_⟩
  show _ = (PV.ow 2 ro)
  refine congrArg (PV.ow 2) ?_
  rw [hro, fill_all _ _ _ (by omega)]
theorem r_laws_toDisk (A : Alg) (hA : A = std) (x : GDisk) (hk : ∀ k ∈ zsDisk x, k ≤ 1048576) : Real Tryz.prog 105 [.agg (eDisk x)] (.agg (eoDisk x)) := by
 obtain ⟨t0, u9⟩ := x
 obtain ⟨t5, n9⟩ := nm (t0.map eString)
 have D4 := rlen_map hA n9
 obtain ⟨v6, r3⟩ := nm (u9.map eWrite)
 have E5 := rlen_map hA r3
 refine real_args (args' := [.agg [.sl 1 t5, .sl 2 v6]]) (by subst n9 r3; rfl) ?_
 refine real tyOk Tryz.func105 (by kernel_rfl) (afun_of rfl ?_)
 refine gs (gr (ra hA 2 (by cbv) (od ?_)))
 refine gs (gr (ra hA 1 (by cbv) (od ?_)))
 refine gs (gr (ra hA 2 (by cbv) ?_))
 obtain ⟨x4, B1, hc2⟩ : ∃ (x4 : RR), x4 = List.map eString t0 ∧ Real Tryz.prog 145 [.sl 1 t5] (.ow 1 x4) := ⟨_, rfl, by subst n9; exact r_laws_toStringS A hA t0 (fun k h => hk k (by simp only [zsDisk, List.mem_append]; simp only [h, true_or, or_true]))⟩
 have F7 := rlen_map hA B1
 refine ops_callV rfl rfl (by cbv) (by cbv) hc2 (.inr rfl) (by cbv) ?_
 refine ra hA 2 (by cbv) (od ?_)
 refine gs (gr (ra hA 2 (by cbv) ?_))
 obtain ⟨e8, k9, hc4⟩ : ∃ (e8 : RR), e8 = List.map eoWrite u9 ∧ Real Tryz.prog 146 [.sl 2 v6] (.ow 2 e8) := ⟨_, rfl, by subst r3; exact r_laws_toWriteS A hA u9 (fun k h => hk k (by simp only [zsDisk, List.mem_append]; simp only [h, true_or, or_true]))⟩
 have y5 := rlen_map hA k9
 refine ops_callV rfl rfl (by cbv) (by cbv) hc4 (.inr rfl) (by cbv) ?_
 refine ra hA 2 (by cbv) (od ?_)
 refine gs (gr (ra hA 2 (by cbv) (od ?_)))
 refine go_ret ⟨_, by cbv, ?_⟩
 show _ = (PV.agg [.ow 1 x4, .ow 2 e8])
 subst B1 k9
 rfl
theorem r_laws_toRec (A : Alg) (hA : A = std) (x : GRec) (hk : ∀ k ∈ zsRec x, k ≤ 1048576) : Real Tryz.prog 208 [.agg (eRec x)] (.agg (eoRec x)) := by
 obtain ⟨s4, q4, u4, x9, q6, l2, y4, k8⟩ := x
 refine real_args (args' := [.agg [.int .i64 s4, .int .i64 q4, .int .i64 u4, .int .i64 x9, .int .i64 q6, .str l2, .str y4, .str k8]]) (by rfl) ?_
 refine real tyOk Tryz.func208 (by kernel_rfl) (afun_of rfl ?_)
 refine gs (gr (ra hA 2 (by cbv) (od ?_)))
 refine gs (gr (ra hA 1 (by cbv) (od ?_)))
 refine gs (gr (ra hA 4 (by cbv) (od ?_)))
 refine gs (gr (ra hA 4 (by cbv) (od ?_)))
 refine gs (gr (ra hA 4 (by cbv) (od ?_)))
 refine gs (gr (ra hA 4 (by cbv) (od ?_)))
 refine gs (gr (ra hA 4 (by cbv) (od ?_)))
 refine gs (gr (ra hA 4 (by cbv) (od ?_)))
 refine gs (gr (ra hA 4 (by cbv) (od ?_)))
 refine gs (gr (ra hA 4 (by cbv) (od ?_)))
 refine gs (gr (ra hA 2 (by cbv) (od ?_)))
 refine go_ret ⟨_, by cbv, ?_⟩
 show _ = (PV.agg [.int .i64 s4, .int .i64 q4, .int .i64 u4, .int .i64 x9, .int .i64 q6, .str l2, .str y4, .str k8])
 rfl
theorem r_laws_toItem (A : Alg) (hA : A = std) (x : GItem) (hk : ∀ k ∈ zsItem x, k ≤ 1048576) : Real Tryz.prog 194 [.agg (eItem x)] (.agg (eoItem x)) := by
 obtain ⟨B2, ⟨i8, g0, l0, j8, g4, i9, j0, i7⟩⟩ := x
 refine real_args (args' := [.agg [.int .i64 B2, .int .i64 i8, .int .i64 g0, .int .i64 l0, .int .i64 j8, .int .i64 g4, .str i9, .str j0, .str i7]]) (by rfl) ?_
 refine real tyOk Tryz.func194 (by kernel_rfl) (afun_of rfl ?_)
 refine gs (gr (ra hA 2 (by cbv) (od ?_)))
 refine gs (gr (ra hA 1 (by cbv) (od ?_)))
 refine gs (gr (ra hA 4 (by cbv) (od ?_)))
 refine gs (gr (ra hA 2 (by cbv) ?_))
 have hc2 : Real Tryz.prog 208 [.agg [.int .i64 i8, .int .i64 g0, .int .i64 l0, .int .i64 j8, .int .i64 g4, .str i9, .str j0, .str i7]] (.agg [.int .i64 i8, .int .i64 g0, .int .i64 l0, .int .i64 j8, .int .i64 g4, .str i9, .str j0, .str i7]) := by exact r_laws_toRec A hA (⟨i8, g0, l0, j8, g4, i9, j0, i7⟩ : GRec) (fun k h => hk k (by simp only [zsItem, List.mem_append]; simp only [h, true_or, or_true]))
 refine ops_callV rfl rfl (by cbv) (by cbv) hc2 (.inr rfl) (by cbv) ?_
 refine ra hA 2 (by cbv) (od ?_)
 refine gs (gr (ra hA 2 (by cbv) (od ?_)))
 refine go_ret ⟨_, by cbv, ?_⟩
 show _ = (PV.agg [.int .i64 B2, .int .i64 i8, .int .i64 g0, .int .i64 l0, .int .i64 j8, .int .i64 g4, .str i9, .str j0, .str i7])
 rfl
def S182_1 (p0 : RR) (p1 : Int) (p2 : RR) : St := { sl := [.sl 9 p0, .bad, .bad, .own 7, .int .i64 p1, .bad, .bad, .bad, .bad, .bad, .bad, .bad, .bad, .bad, .bad, .bad, .bad, .bad, .bad, .bad, .bad, .bad, .bad], bl := [(7, ⟨.arr, 9, p2⟩)] }
theorem r_laws_toItemS (A : Alg) (hA : A = std) (xs : List GItem) (hk : ∀ k ∈ zsItemS xs, k ≤ 1048576) : Real Tryz.prog 182 [.sl 9 (List.map eItem xs)] (.ow 9 (List.map eoItem xs)) := by
 obtain ⟨a0, a2⟩ := nm (xs.map eItem)
 have d4 := rlen_map hA a2
 refine real_args (args' := [.sl 9 a0]) (by subst a2; rfl) ?_
 have hlen : List.length xs ≤ 1048576 := hk _ (by simp [zsItemS])
 refine real tyOk Tryz.func182 (by kernel_rfl) (afun_of rfl ?_)
 refine gs (gr (ra hA 1 (by cbv) (od ?_)))
 refine gs (gr (ra hA 2 (by cbv) ?_))
 obtain ⟨rm, hrm⟩ := nm (List.replicate (Int.toNat (A.rlen a0)) [.int .i64 0, .int .i64 0, .int .i64 0, .int .i64 0, .int .i64 0, .int .i64 0, .str ByteArray.empty, .str ByteArray.empty, .str ByteArray.empty] : RR)
 have hn0 : (0 : Int) ≤ A.rlen a0 := by omega
 have hmax : A.rlen a0 * 96 ≤ 140737488355328 := by omega
 refine ops_step rfl rfl (mk_arr rfl rfl rfl rfl rfl rfl hn0 hmax (by decide) (by decide) rfl hrm) ?_
 refine ra hA 1 (by cbv) (od ?_)
 refine gs (gs (gr (ra hA 1 (by cbv) (od ?_))))
 refine go_block ?_
 refine go_loopE (fun σ m => ∃ (i : Nat) (ro : RR) (n4 : Int), σ = (S182_1 a0 n4 ro) ∧ (n4 = (i : Int) ∧ i ≤ List.length xs ∧ ro = fill eoItem [.int .i64 0, .int .i64 0, .int .i64 0, .int .i64 0, .int .i64 0, .int .i64 0, .str ByteArray.empty, .str ByteArray.empty, .str ByteArray.empty] xs i) ∧ m = List.length xs - i) _ [] [0, 3, 4] [7] (S182_1 a0 0 rm) rfl (by cbv) ⟨0, rm, 0, rfl, ?_, rfl⟩ (fun σ m hI => ?_)
 ·
  exact ⟨rfl, Nat.zero_le _, by rw [hrm, fill_zero, d4]; rfl⟩
 obtain ⟨i, ro, n4, rfl, ⟨hn4, hi, hro⟩, rfl⟩ := hI
 refine gs (gs (gr (ra hA 4 (by cbv) (od ?_))))
 refine go_cond rfl (fun c1 => ?_) (fun c1 => ?_)
 ·
  have ec1 : n4 < (A.rlen a0) := lss_t hA c1
  refine gk (gs ?_)
  refine go_block ?_
  refine gr (ra hA 4 (by cbv) ?_)
  have g6 : (0 : Int) ≤ n4 := by
   omega
  have i0 : (Int.toNat n4) < List.length xs := by
   omega
  obtain ⟨x2, hx2⟩ : ∃ x, (xs)[(Int.toNat n4)]? = some x := ⟨_, List.getElem?_eq_getElem i0⟩
  have l9 := List.mem_of_getElem? hx2
  obtain ⟨p8, ⟨e1, c9, f6, e0, d3, e3, e4, e5⟩⟩ := x2
  have g9 : a0[(Int.toNat n4)]? = some [.int .i64 p8, .int .i64 e1, .int .i64 c9, .int .i64 f6, .int .i64 e0, .int .i64 d3, .str e3, .str e4, .str e5] := by
   exact map_at eItem a2 hx2
  have hkx := fun (k : Nat) h => hk k (List.mem_cons_of_mem _ (List.mem_flatMap.2 ⟨_, l9, h⟩))
  refine ops_step rfl rfl (idx_sl rfl rfl rfl rfl rfl g6 rfl g9) ?_
  refine ra hA 1 (by cbv) ?_
  have hc4 : Real Tryz.prog 194 [.agg [.int .i64 p8, .int .i64 e1, .int .i64 c9, .int .i64 f6, .int .i64 e0, .int .i64 d3, .str e3, .str e4, .str e5]] (.agg [.int .i64 p8, .int .i64 e1, .int .i64 c9, .int .i64 f6, .int .i64 e0, .int .i64 d3, .str e3, .str e4, .str e5]) := by exact r_laws_toItem A hA (⟨p8, ⟨e1, c9, f6, e0, d3, e3, e4, e5⟩⟩ : GItem) hkx
  refine ops_callV rfl rfl (by cbv) (by cbv) hc4 (.inr rfl) (by cbv) ?_
  have hlo : n4 < (List.length ro : Int) := by
   rw [hro, fill_len _ _ _ hi]; omega
  refine ops_step rfl rfl (idx_own rfl rfl rfl rfl rfl rfl (by omega) hlo rfl) ?_
  have a1 := hx2
  rw [hn4] at a1
  have a1 : xs[i]? = some _ := a1
  have hz : ro[Int.toNat n4]? = some [.int .i64 0, .int .i64 0, .int .i64 0, .int .i64 0, .int .i64 0, .int .i64 0, .str ByteArray.empty, .str ByteArray.empty, .str ByteArray.empty] := by
   rw [hro, hn4]; exact fill_at _ _ _ (by omega)
  have hset : fill eoItem [.int .i64 0, .int .i64 0, .int .i64 0, .int .i64 0, .int .i64 0, .int .i64 0, .str ByteArray.empty, .str ByteArray.empty, .str ByteArray.empty] xs (i + 1) = ro.set (Int.toNat n4) [.int .i64 p8, .int .i64 e1, .int .i64 c9, .int .i64 f6, .int .i64 e0, .int .i64 d3, .str e3, .str e4, .str e5] := by
   rw [hro, hn4]; exact (fill_set eoItem _ xs a1).symm
  obtain ⟨ro2, b5⟩ : ∃ r, r = fill eoItem [.int .i64 0, .int .i64 0, .int .i64 0, .int .i64 0, .int .i64 0, .int .i64 0, .str ByteArray.empty, .str ByteArray.empty, .str ByteArray.empty] xs (i + 1) := ⟨_, rfl⟩
  rw [← b5] at hset
  refine ops_step rfl rfl (sto_arr (r := [.int .i64 0, .int .i64 0, .int .i64 0, .int .i64 0, .int .i64 0, .int .i64 0, .str ByteArray.empty, .str ByteArray.empty, .str ByteArray.empty]) (cs := [.int .i64 p8, .int .i64 e1, .int .i64 c9, .int .i64 f6, .int .i64 e0, .int .i64 d3, .str e3, .str e4, .str e5]) rfl rfl rfl rfl rfl ⟨_, _, rfl⟩ rfl rfl hz rfl hset) ?_
  refine od ?_
  refine gr (ra hA 3 (by cbv) (od ?_))
  refine ⟨(S182_1 a0 (A.num .add .i64 n4 1) ro2), List.length xs - (i + 1), ?_, by cbv, i + 1, ro2, (A.num .add .i64 n4 1), rfl, ?_, rfl⟩
  ·
   omega
  ·
   exact ⟨by rw [add_i64 hA (by omega) (by omega)]; omega, by omega, b5⟩
 ·
  have ec1 : (A.rlen a0) ≤ n4 := lss_f hA c1
  refine go_exit ⟨fun _ => ?_, fun h => absurd rfl h⟩
  refine gs (gr (ra hA 2 (by cbv) (od ?_)))
  refine go_ret ⟨_, by cbv, ?_⟩
  show _ = (PV.ow 9 ro)
  refine congrArg (PV.ow 9) ?_
  rw [hro, fill_all _ _ _ (by omega)]
theorem r_laws_toSeg (A : Alg) (hA : A = std) (x : GSeg) (hk : ∀ k ∈ zsSeg x, k ≤ 1048576) : Real Tryz.prog 147 [.agg (eSeg x)] (.agg (eoSeg x)) := by
 obtain ⟨D5, B6, B3, u8⟩ := x
 obtain ⟨v5, q9⟩ := nm (u8.map eItem)
 have E6 := rlen_map hA q9
 refine real_args (args' := [.agg [.int .i64 D5, .int .i64 B6, .int .i64 B3, .sl 9 v5]]) (by subst q9; rfl) ?_
 refine real tyOk Tryz.func147 (by kernel_rfl) (afun_of rfl ?_)
 refine gs (gr (ra hA 2 (by cbv) (od ?_)))
 refine gs (gr (ra hA 1 (by cbv) (od ?_)))
 refine gs (gr (ra hA 4 (by cbv) (od ?_)))
 refine gs (gr (ra hA 4 (by cbv) (od ?_)))
 refine gs (gr (ra hA 4 (by cbv) (od ?_)))
 refine gs (gr (ra hA 2 (by cbv) ?_))
 obtain ⟨v9, y8, hc2⟩ : ∃ (v9 : RR), v9 = List.map eoItem u8 ∧ Real Tryz.prog 182 [.sl 9 v5] (.ow 9 v9) := ⟨_, rfl, by subst q9; exact r_laws_toItemS A hA u8 (fun k h => hk k (by simp only [zsSeg, List.mem_append]; simp only [h, true_or, or_true]))⟩
 have F4 := rlen_map hA y8
 refine ops_callV rfl rfl (by cbv) (by cbv) hc2 (.inr rfl) (by cbv) ?_
 refine ra hA 2 (by cbv) (od ?_)
 refine gs (gr (ra hA 2 (by cbv) (od ?_)))
 refine go_ret ⟨_, by cbv, ?_⟩
 show _ = (PV.agg [.int .i64 D5, .int .i64 B6, .int .i64 B3, .ow 9 v9])
 subst y8
 rfl
def S106_1 (p0 : RR) (p1 : Int) (p2 : RR) : St := { sl := [.sl 4 p0, .bad, .bad, .own 7, .int .i64 p1, .bad, .bad, .bad, .bad, .bad, .bad, .bad, .bad, .bad, .bad, .bad, .bad, .bad, .bad, .bad, .bad, .bad, .bad], bl := [(7, ⟨.arr, 4, p2⟩)] }
theorem r_laws_toSegS (A : Alg) (hA : A = std) (xs : List GSeg) (hk : ∀ k ∈ zsSegS xs, k ≤ 1048576) : Real Tryz.prog 106 [.sl 4 (List.map eSeg xs)] (.ow 4 (List.map eoSeg xs)) := by
 obtain ⟨a0, a2⟩ := nm (xs.map eSeg)
 have d4 := rlen_map hA a2
 refine real_args (args' := [.sl 4 a0]) (by subst a2; rfl) ?_
 have hlen : List.length xs ≤ 1048576 := hk _ (by simp [zsSegS])
 refine real tyOk Tryz.func106 (by kernel_rfl) (afun_of rfl ?_)
 refine gs (gr (ra hA 1 (by cbv) (od ?_)))
 refine gs (gr (ra hA 2 (by cbv) ?_))
 obtain ⟨rm, hrm⟩ := nm (List.replicate (Int.toNat (A.rlen a0)) [.int .i64 0, .int .i64 0, .int .i64 0, .zc] : RR)
 have hn0 : (0 : Int) ≤ A.rlen a0 := by omega
 have hmax : A.rlen a0 * 48 ≤ 140737488355328 := by omega
 refine ops_step rfl rfl (mk_arr rfl rfl rfl rfl rfl rfl hn0 hmax (by decide) (by decide) rfl hrm) ?_
 refine ra hA 1 (by cbv) (od ?_)
 refine gs (gs (gr (ra hA 1 (by cbv) (od ?_))))
 refine go_block ?_
 refine go_loopE (fun σ m => ∃ (i : Nat) (ro : RR) (n4 : Int), σ = (S106_1 a0 n4 ro) ∧ (n4 = (i : Int) ∧ i ≤ List.length xs ∧ ro = fill eoSeg [.int .i64 0, .int .i64 0, .int .i64 0, .zc] xs i) ∧ m = List.length xs - i) _ [] [0, 3, 4] [7] (S106_1 a0 0 rm) rfl (by cbv) ⟨0, rm, 0, rfl, ?_, rfl⟩ (fun σ m hI => ?_)
 ·
  exact ⟨rfl, Nat.zero_le _, by rw [hrm, fill_zero, d4]; rfl⟩
 obtain ⟨i, ro, n4, rfl, ⟨hn4, hi, hro⟩, rfl⟩ := hI
 refine gs (gs (gr (ra hA 4 (by cbv) (od ?_))))
 refine go_cond rfl (fun c1 => ?_) (fun c1 => ?_)
 ·
  have ec1 : n4 < (A.rlen a0) := lss_t hA c1
  refine gk (gs ?_)
  refine go_block ?_
  refine gr (ra hA 4 (by cbv) ?_)
  have g6 : (0 : Int) ≤ n4 := by
   omega
  have i0 : (Int.toNat n4) < List.length xs := by
   omega
  obtain ⟨x2, hx2⟩ : ∃ x, (xs)[(Int.toNat n4)]? = some x := ⟨_, List.getElem?_eq_getElem i0⟩
  have l9 := List.mem_of_getElem? hx2
  obtain ⟨t1, p9, p7, u1⟩ := x2
  obtain ⟨u2, o9⟩ := nm (u1.map eItem)
  have E2 := rlen_map hA o9
  have g9 : a0[(Int.toNat n4)]? = some [.int .i64 t1, .int .i64 p9, .int .i64 p7, .sl 9 u2] := by
   subst o9; exact map_at eSeg a2 hx2
  have hkx := fun (k : Nat) h => hk k (List.mem_cons_of_mem _ (List.mem_flatMap.2 ⟨_, l9, h⟩))
  refine ops_step rfl rfl (idx_sl rfl rfl rfl rfl rfl g6 rfl g9) ?_
  refine ra hA 1 (by cbv) ?_
  obtain ⟨g2, s2, hc4⟩ : ∃ (g2 : RR), g2 = List.map eoItem u1 ∧ Real Tryz.prog 147 [.agg [.int .i64 t1, .int .i64 p9, .int .i64 p7, .sl 9 u2]] (.agg [.int .i64 t1, .int .i64 p9, .int .i64 p7, .ow 9 g2]) := ⟨_, rfl, by subst o9; exact r_laws_toSeg A hA (⟨t1, p9, p7, u1⟩ : GSeg) hkx⟩
  have C9 := rlen_map hA s2
  refine ops_callV rfl rfl (by cbv) (by cbv) hc4 (.inr rfl) (by cbv) ?_
  have hlo : n4 < (List.length ro : Int) := by
   rw [hro, fill_len _ _ _ hi]; omega
  refine ops_step rfl rfl (idx_own rfl rfl rfl rfl rfl rfl (by omega) hlo rfl) ?_
  have a1 := hx2
  rw [hn4] at a1
  have a1 : xs[i]? = some _ := a1
  have hz : ro[Int.toNat n4]? = some [.int .i64 0, .int .i64 0, .int .i64 0, .zc] := by
   rw [hro, hn4]; exact fill_at _ _ _ (by omega)
  have hset : fill eoSeg [.int .i64 0, .int .i64 0, .int .i64 0, .zc] xs (i + 1) = ro.set (Int.toNat n4) [.int .i64 t1, .int .i64 p9, .int .i64 p7, .ow 9 g2] := by
   rw [hro, hn4]; subst s2; exact (fill_set eoSeg _ xs a1).symm
  obtain ⟨ro2, b5⟩ : ∃ r, r = fill eoSeg [.int .i64 0, .int .i64 0, .int .i64 0, .zc] xs (i + 1) := ⟨_, rfl⟩
  rw [← b5] at hset
  refine ops_step rfl rfl (sto_arr (r := [.int .i64 0, .int .i64 0, .int .i64 0, .zc]) (cs := [.int .i64 t1, .int .i64 p9, .int .i64 p7, .ow 9 g2]) rfl rfl rfl rfl rfl ⟨_, _, rfl⟩ rfl rfl hz rfl hset) ?_
  refine od ?_
  refine gr (ra hA 3 (by cbv) (od ?_))
  refine ⟨(S106_1 a0 (A.num .add .i64 n4 1) ro2), List.length xs - (i + 1), ?_, by cbv, i + 1, ro2, (A.num .add .i64 n4 1), rfl, ?_, rfl⟩
  ·
   omega
  ·
   exact ⟨by rw [add_i64 hA (by omega) (by omega)]; omega, by omega, b5⟩
 ·
  have ec1 : (A.rlen a0) ≤ n4 := lss_f hA c1
  refine go_exit ⟨fun _ => ?_, fun h => absurd rfl h⟩
  refine gs (gr (ra hA 2 (by cbv) (od ?_)))
  refine go_ret ⟨_, by cbv, ?_⟩
  show _ = (PV.ow 4 ro)
  refine congrArg (PV.ow 4) ?_
  rw [hro, fill_all _ _ _ (by omega)]
theorem r_laws_toLog (A : Alg) (hA : A = std) (x : GLog) (hk : ∀ k ∈ zsLog x, k ≤ 1048576) : Real Tryz.prog 59 [.agg (eLog x)] (.agg (eoLog x)) := by
 obtain ⟨⟨k1, n8⟩, x8, w3, v7, v3, x3, t6⟩ := x
 obtain ⟨n7, f8⟩ := nm (k1.map eString)
 have z2 := rlen_map hA f8
 obtain ⟨p5, j6⟩ := nm (n8.map eWrite)
 have C1 := rlen_map hA j6
 obtain ⟨w6, s1⟩ := nm (w3.map eSeg)
 have E9 := rlen_map hA s1
 refine real_args (args' := [.agg [.sl 1 n7, .sl 2 p5, .int .i64 x8, .sl 4 w6, .int .i64 v7, .int .i64 v3, .int .i64 x3, .int .i64 t6]]) (by subst f8 j6 s1; rfl) ?_
 refine real tyOk Tryz.func59 (by kernel_rfl) (afun_of rfl ?_)
 refine gs (gr (ra hA 2 (by cbv) (od ?_)))
 refine gs (gr (ra hA 1 (by cbv) (od ?_)))
 refine gs (gr (ra hA 2 (by cbv) ?_))
 obtain ⟨j3, m4, r7, u0, hc2⟩ : ∃ (j3 : RR) (m4 : RR), j3 = List.map eString k1 ∧ m4 = List.map eoWrite n8 ∧ Real Tryz.prog 105 [.agg [.sl 1 n7, .sl 2 p5]] (.agg [.ow 1 j3, .ow 2 m4]) := ⟨_, _, rfl, rfl, by subst f8 j6; exact r_laws_toDisk A hA (⟨k1, n8⟩ : GDisk) (fun k h => hk k (by simp only [zsLog, List.mem_append]; simp only [h, true_or, or_true]))⟩
 have C6 := rlen_map hA r7
 have D8 := rlen_map hA u0
 refine ops_callV rfl rfl (by cbv) (by cbv) hc2 (.inr rfl) (by cbv) ?_
 refine ra hA 2 (by cbv) (od ?_)
 refine gs (gr (ra hA 4 (by cbv) (od ?_)))
 refine gs (gr (ra hA 2 (by cbv) ?_))
 obtain ⟨w0, y7, hc4⟩ : ∃ (w0 : RR), w0 = List.map eoSeg w3 ∧ Real Tryz.prog 106 [.sl 4 w6] (.ow 4 w0) := ⟨_, rfl, by subst s1; exact r_laws_toSegS A hA w3 (fun k h => hk k (by simp only [zsLog, List.mem_append]; simp only [h, true_or, or_true]))⟩
 have F5 := rlen_map hA y7
 refine ops_callV rfl rfl (by cbv) (by cbv) hc4 (.inr rfl) (by cbv) ?_
 refine ra hA 2 (by cbv) (od ?_)
 refine gs (gr (ra hA 4 (by cbv) (od ?_)))
 refine gs (gr (ra hA 4 (by cbv) (od ?_)))
 refine gs (gr (ra hA 4 (by cbv) (od ?_)))
 refine gs (gr (ra hA 4 (by cbv) (od ?_)))
 refine gs (gr (ra hA 2 (by cbv) (od ?_)))
 refine go_ret ⟨_, by cbv, ?_⟩
 show _ = (PV.agg [.ow 1 j3, .ow 2 m4, .int .i64 x8, .ow 4 w0, .int .i64 v7, .int .i64 v3, .int .i64 x3, .int .i64 t6])
 subst r7 u0 y7
 rfl
def S60_1 (p0 : RR) (p1 : Int) (p2 : RR) : St := { sl := [.sl 1 p0, .bad, .bad, .own 7, .int .i64 p1, .bad, .bad, .bad, .bad, .bad, .bad, .bad, .bad, .bad, .bad, .bad, .bad, .bad, .bad, .bad, .bad, .bad], bl := [(7, ⟨.arr, 1, p2⟩)] }
theorem r_laws_toIntS (A : Alg) (hA : A = std) (xs : List Int) (hk : ∀ k ∈ zsIntS xs, k ≤ 1048576) : Real Tryz.prog 60 [.sl 1 (List.map eInt xs)] (.ow 1 (List.map eInt xs)) := by
 obtain ⟨a0, a2⟩ := nm (xs.map eInt)
 have d4 := rlen_map hA a2
 refine real_args (args' := [.sl 1 a0]) (by subst a2; rfl) ?_
 have hlen : List.length xs ≤ 1048576 := hk _ (by simp [zsIntS])
 refine real tyOk Tryz.func60 (by kernel_rfl) (afun_of rfl ?_)
 refine gs (gr (ra hA 1 (by cbv) (od ?_)))
 refine gs (gr (ra hA 2 (by cbv) ?_))
 obtain ⟨rm, hrm⟩ := nm (List.replicate (Int.toNat (A.rlen a0)) [.int .i64 0] : RR)
 have hn0 : (0 : Int) ≤ A.rlen a0 := by omega
 have hmax : A.rlen a0 * 8 ≤ 140737488355328 := by omega
 refine ops_step rfl rfl (mk_arr rfl rfl rfl rfl rfl rfl hn0 hmax (by decide) (by decide) rfl hrm) ?_
 refine ra hA 1 (by cbv) (od ?_)
 refine gs (gs (gr (ra hA 1 (by cbv) (od ?_))))
 refine go_block ?_
 refine go_loopE (fun σ m => ∃ (i : Nat) (ro : RR) (n4 : Int), σ = (S60_1 a0 n4 ro) ∧ (n4 = (i : Int) ∧ i ≤ List.length xs ∧ ro = fill eInt [.int .i64 0] xs i) ∧ m = List.length xs - i) _ [] [0, 3, 4] [7] (S60_1 a0 0 rm) rfl (by cbv) ⟨0, rm, 0, rfl, ?_, rfl⟩ (fun σ m hI => ?_)
 ·
  exact ⟨rfl, Nat.zero_le _, by rw [hrm, fill_zero, d4]; rfl⟩
 obtain ⟨i, ro, n4, rfl, ⟨hn4, hi, hro⟩, rfl⟩ := hI
 refine gs (gs (gr (ra hA 4 (by cbv) (od ?_))))
 refine go_cond rfl (fun c1 => ?_) (fun c1 => ?_)
 ·
  have ec1 : n4 < (A.rlen a0) := lss_t hA c1
  refine gk (gs ?_)
  refine go_block ?_
  refine gr (ra hA 4 (by cbv) ?_)
  have g6 : (0 : Int) ≤ n4 := by
   omega
  have i0 : (Int.toNat n4) < List.length xs := by
   omega
  obtain ⟨x2, hx2⟩ : ∃ x, (xs)[(Int.toNat n4)]? = some x := ⟨_, List.getElem?_eq_getElem i0⟩
  have l9 := List.mem_of_getElem? hx2
  have g9 : a0[(Int.toNat n4)]? = some [.int .i64 x2] := by
   exact map_at eInt a2 hx2
  refine ops_step rfl rfl (idx_sl rfl rfl rfl rfl rfl g6 rfl g9) ?_
  refine ra hA 1 (by cbv) ?_
  have hlo : n4 < (List.length ro : Int) := by
   rw [hro, fill_len _ _ _ hi]; omega
  refine ops_step rfl rfl (idx_own rfl rfl rfl rfl rfl rfl (by omega) hlo rfl) ?_
  have a1 := hx2
  rw [hn4] at a1
  have a1 : xs[i]? = some _ := a1
  have hz : ro[Int.toNat n4]? = some [.int .i64 0] := by
   rw [hro, hn4]; exact fill_at _ _ _ (by omega)
  have hset : fill eInt [.int .i64 0] xs (i + 1) = ro.set (Int.toNat n4) [.int .i64 x2] := by
   rw [hro, hn4]; exact (fill_set eInt _ xs a1).symm
  obtain ⟨ro2, b5⟩ : ∃ r, r = fill eInt [.int .i64 0] xs (i + 1) := ⟨_, rfl⟩
  rw [← b5] at hset
  refine ops_step rfl rfl (sto_arr (r := [.int .i64 0]) (cs := [.int .i64 x2]) rfl rfl rfl rfl rfl ⟨_, _, rfl⟩ rfl rfl hz rfl hset) ?_
  refine od ?_
  refine gr (ra hA 3 (by cbv) (od ?_))
  refine ⟨(S60_1 a0 (A.num .add .i64 n4 1) ro2), List.length xs - (i + 1), ?_, by cbv, i + 1, ro2, (A.num .add .i64 n4 1), rfl, ?_, rfl⟩
  ·
   omega
  ·
   exact ⟨by rw [add_i64 hA (by omega) (by omega)]; omega, by omega, b5⟩
 ·
  have ec1 : (A.rlen a0) ≤ n4 := lss_f hA c1
  refine go_exit ⟨fun _ => ?_, fun h => absurd rfl h⟩
  refine gs (gr (ra hA 2 (by cbv) (od ?_)))
  refine go_ret ⟨_, by cbv, ?_⟩
  show _ = (PV.ow 1 ro)
  refine congrArg (PV.ow 1) ?_
  rw [hro, fill_all _ _ _ (by omega)]
theorem r_laws_toStore (A : Alg) (hA : A = std) (x : GStore) (hk : ∀ k ∈ zsStore x, k ≤ 1048576) : Real Tryz.prog 30 [.agg (eStore x)] (.agg (eoStore x)) := by
 obtain ⟨⟨⟨f5, i1⟩, j1, r4, d5, d9, g3, c6⟩, u7⟩ := x
 obtain ⟨j7, d1⟩ := nm (f5.map eString)
 have x1 := rlen_map hA d1
 obtain ⟨l3, e7⟩ := nm (i1.map eWrite)
 have x6 := rlen_map hA e7
 obtain ⟨s3, l4⟩ := nm (r4.map eSeg)
 have C8 := rlen_map hA l4
 obtain ⟨v1, q7⟩ := nm (u7.map eInt)
 have E4 := rlen_map hA q7
 refine real_args (args' := [.agg [.sl 1 j7, .sl 2 l3, .int .i64 j1, .sl 4 s3, .int .i64 d5, .int .i64 d9, .int .i64 g3, .int .i64 c6, .sl 1 v1]]) (by subst d1 e7 l4 q7; rfl) ?_
 refine real tyOk Tryz.func30 (by kernel_rfl) (afun_of rfl ?_)
 refine gs (gr (ra hA 2 (by cbv) (od ?_)))
 refine gs (gr (ra hA 1 (by cbv) (od ?_)))
 refine gs (gr (ra hA 2 (by cbv) ?_))
 obtain ⟨c8, e9, o7, k7, n3, u3, hc2⟩ : ∃ (c8 : RR) (e9 : RR) (o7 : RR), c8 = List.map eString f5 ∧ e9 = List.map eoWrite i1 ∧ o7 = List.map eoSeg r4 ∧ Real Tryz.prog 59 [.agg [.sl 1 j7, .sl 2 l3, .int .i64 j1, .sl 4 s3, .int .i64 d5, .int .i64 d9, .int .i64 g3, .int .i64 c6]] (.agg [.ow 1 c8, .ow 2 e9, .int .i64 j1, .ow 4 o7, .int .i64 d5, .int .i64 d9, .int .i64 g3, .int .i64 c6]) := ⟨_, _, _, rfl, rfl, rfl, by subst d1 e7 l4; exact r_laws_toLog A hA (⟨⟨f5, i1⟩, j1, r4, d5, d9, g3, c6⟩ : GLog) (fun k h => hk k (by simp only [zsStore, List.mem_append]; simp only [h, true_or, or_true]))⟩
 have y9 := rlen_map hA k7
 have z9 := rlen_map hA n3
 have E3 := rlen_map hA u3
 refine ops_callV rfl rfl (by cbv) (by cbv) hc2 (.inr rfl) (by cbv) ?_
 refine ra hA 2 (by cbv) (od ?_)
 refine gs (gr (ra hA 2 (by cbv) ?_))
 obtain ⟨e8, k9, hc4⟩ : ∃ (e8 : RR), e8 = List.map eInt u7 ∧ Real Tryz.prog 60 [.sl 1 v1] (.ow 1 e8) := ⟨_, rfl, by subst q7; exact r_laws_toIntS A hA u7 (fun k h => hk k (by simp only [zsStore, List.mem_append]; simp only [h, true_or, or_true]))⟩
 have y5 := rlen_map hA k9
 refine ops_callV rfl rfl (by cbv) (by cbv) hc4 (.inr rfl) (by cbv) ?_
 refine ra hA 2 (by cbv) (od ?_)
 refine gs (gr (ra hA 2 (by cbv) (od ?_)))
 refine go_ret ⟨_, by cbv, ?_⟩
 show _ = (PV.agg [.ow 1 c8, .ow 2 e9, .int .i64 j1, .ow 4 o7, .int .i64 d5, .int .i64 d9, .int .i64 g3, .int .i64 c6, .ow 1 e8])
 subst k7 n3 u3 k9
 rfl
theorem r_laws_toBring (A : Alg) (hA : A = std) (x : GBring) (hk : ∀ k ∈ zsBring x, k ≤ 1048576) : Real Tryz.prog 107 [.agg (eBring x)] (.agg (eoBring x)) := by
 obtain ⟨i5, y3, z4, w8⟩ := x
 obtain ⟨y6, u6⟩ := nm (z4.map eString)
 have F3 := rlen_map hA u6
 obtain ⟨w5, s0⟩ := nm (w8.map eString)
 have F0 := rlen_map hA s0
 refine real_args (args' := [.agg [.int .i64 i5, .str y3, .sl 1 y6, .sl 1 w5]]) (by subst u6 s0; rfl) ?_
 refine real tyOk Tryz.func107 (by kernel_rfl) (afun_of rfl ?_)
 refine gs (gr (ra hA 2 (by cbv) (od ?_)))
 refine gs (gr (ra hA 1 (by cbv) (od ?_)))
 refine gs (gr (ra hA 4 (by cbv) (od ?_)))
 refine gs (gr (ra hA 4 (by cbv) (od ?_)))
 refine gs (gr (ra hA 2 (by cbv) ?_))
 obtain ⟨m6, s9, hc2⟩ : ∃ (m6 : RR), m6 = List.map eString z4 ∧ Real Tryz.prog 145 [.sl 1 y6] (.ow 1 m6) := ⟨_, rfl, by subst u6; exact r_laws_toStringS A hA z4 (fun k h => hk k (by simp only [zsBring, List.mem_append]; simp only [h, true_or, or_true]))⟩
 have D6 := rlen_map hA s9
 refine ops_callV rfl rfl (by cbv) (by cbv) hc2 (.inr rfl) (by cbv) ?_
 refine ra hA 2 (by cbv) (od ?_)
 refine gs (gr (ra hA 2 (by cbv) ?_))
 obtain ⟨n0, s6, hc4⟩ : ∃ (n0 : RR), n0 = List.map eString w8 ∧ Real Tryz.prog 145 [.sl 1 w5] (.ow 1 n0) := ⟨_, rfl, by subst s0; exact r_laws_toStringS A hA w8 (fun k h => hk k (by simp only [zsBring, List.mem_append]; simp only [h, true_or, or_true]))⟩
 have D2 := rlen_map hA s6
 refine ops_callV rfl rfl (by cbv) (by cbv) hc4 (.inr rfl) (by cbv) ?_
 refine ra hA 2 (by cbv) (od ?_)
 refine gs (gr (ra hA 2 (by cbv) (od ?_)))
 refine go_ret ⟨_, by cbv, ?_⟩
 show _ = (PV.agg [.int .i64 i5, .str y3, .ow 1 m6, .ow 1 n0])
 subst s9 s6
 rfl
theorem r_laws_toMail (A : Alg) (hA : A = std) (x : GMail) (hk : ∀ k ∈ zsMail x, k ≤ 1048576) : Real Tryz.prog 183 [.agg (eMail x)] (.agg (eoMail x)) := by
 obtain ⟨u4, q6, k8⟩ := x
 refine real_args (args' := [.agg [.int .i64 u4, .int .i64 q6, .str k8]]) (by rfl) ?_
 refine real tyOk Tryz.func183 (by kernel_rfl) (afun_of rfl ?_)
 refine gs (gr (ra hA 2 (by cbv) (od ?_)))
 refine gs (gr (ra hA 1 (by cbv) (od ?_)))
 refine gs (gr (ra hA 4 (by cbv) (od ?_)))
 refine gs (gr (ra hA 4 (by cbv) (od ?_)))
 refine gs (gr (ra hA 4 (by cbv) (od ?_)))
 refine gs (gr (ra hA 2 (by cbv) (od ?_)))
 refine go_ret ⟨_, by cbv, ?_⟩
 show _ = (PV.agg [.int .i64 u4, .int .i64 q6, .str k8])
 rfl
def S148_1 (p0 : RR) (p1 : Int) (p2 : RR) : St := { sl := [.sl 3 p0, .bad, .bad, .own 7, .int .i64 p1, .bad, .bad, .bad, .bad, .bad, .bad, .bad, .bad, .bad, .bad, .bad, .bad, .bad, .bad, .bad, .bad, .bad, .bad], bl := [(7, ⟨.arr, 3, p2⟩)] }
theorem r_laws_toMailS (A : Alg) (hA : A = std) (xs : List GMail) (hk : ∀ k ∈ zsMailS xs, k ≤ 1048576) : Real Tryz.prog 148 [.sl 3 (List.map eMail xs)] (.ow 3 (List.map eoMail xs)) := by
 obtain ⟨a0, a2⟩ := nm (xs.map eMail)
 have d4 := rlen_map hA a2
 refine real_args (args' := [.sl 3 a0]) (by subst a2; rfl) ?_
 have hlen : List.length xs ≤ 1048576 := hk _ (by simp [zsMailS])
 refine real tyOk Tryz.func148 (by kernel_rfl) (afun_of rfl ?_)
 refine gs (gr (ra hA 1 (by cbv) (od ?_)))
 refine gs (gr (ra hA 2 (by cbv) ?_))
 obtain ⟨rm, hrm⟩ := nm (List.replicate (Int.toNat (A.rlen a0)) [.int .i64 0, .int .i64 0, .str ByteArray.empty] : RR)
 have hn0 : (0 : Int) ≤ A.rlen a0 := by omega
 have hmax : A.rlen a0 * 32 ≤ 140737488355328 := by omega
 refine ops_step rfl rfl (mk_arr rfl rfl rfl rfl rfl rfl hn0 hmax (by decide) (by decide) rfl hrm) ?_
 refine ra hA 1 (by cbv) (od ?_)
 refine gs (gs (gr (ra hA 1 (by cbv) (od ?_))))
 refine go_block ?_
 refine go_loopE (fun σ m => ∃ (i : Nat) (ro : RR) (n4 : Int), σ = (S148_1 a0 n4 ro) ∧ (n4 = (i : Int) ∧ i ≤ List.length xs ∧ ro = fill eoMail [.int .i64 0, .int .i64 0, .str ByteArray.empty] xs i) ∧ m = List.length xs - i) _ [] [0, 3, 4] [7] (S148_1 a0 0 rm) rfl (by cbv) ⟨0, rm, 0, rfl, ?_, rfl⟩ (fun σ m hI => ?_)
 ·
  exact ⟨rfl, Nat.zero_le _, by rw [hrm, fill_zero, d4]; rfl⟩
 obtain ⟨i, ro, n4, rfl, ⟨hn4, hi, hro⟩, rfl⟩ := hI
 refine gs (gs (gr (ra hA 4 (by cbv) (od ?_))))
 refine go_cond rfl (fun c1 => ?_) (fun c1 => ?_)
 ·
  have ec1 : n4 < (A.rlen a0) := lss_t hA c1
  refine gk (gs ?_)
  refine go_block ?_
  refine gr (ra hA 4 (by cbv) ?_)
  have g6 : (0 : Int) ≤ n4 := by
   omega
  have i0 : (Int.toNat n4) < List.length xs := by
   omega
  obtain ⟨x2, hx2⟩ : ∃ x, (xs)[(Int.toNat n4)]? = some x := ⟨_, List.getElem?_eq_getElem i0⟩
  have l9 := List.mem_of_getElem? hx2
  obtain ⟨q1, k4, b3⟩ := x2
  have g9 : a0[(Int.toNat n4)]? = some [.int .i64 q1, .int .i64 k4, .str b3] := by
   exact map_at eMail a2 hx2
  have hkx := fun (k : Nat) h => hk k (List.mem_cons_of_mem _ (List.mem_flatMap.2 ⟨_, l9, h⟩))
  refine ops_step rfl rfl (idx_sl rfl rfl rfl rfl rfl g6 rfl g9) ?_
  refine ra hA 1 (by cbv) ?_
  have hc4 : Real Tryz.prog 183 [.agg [.int .i64 q1, .int .i64 k4, .str b3]] (.agg [.int .i64 q1, .int .i64 k4, .str b3]) := by exact r_laws_toMail A hA (⟨q1, k4, b3⟩ : GMail) hkx
  refine ops_callV rfl rfl (by cbv) (by cbv) hc4 (.inr rfl) (by cbv) ?_
  have hlo : n4 < (List.length ro : Int) := by
   rw [hro, fill_len _ _ _ hi]; omega
  refine ops_step rfl rfl (idx_own rfl rfl rfl rfl rfl rfl (by omega) hlo rfl) ?_
  have a1 := hx2
  rw [hn4] at a1
  have a1 : xs[i]? = some _ := a1
  have hz : ro[Int.toNat n4]? = some [.int .i64 0, .int .i64 0, .str ByteArray.empty] := by
   rw [hro, hn4]; exact fill_at _ _ _ (by omega)
  have hset : fill eoMail [.int .i64 0, .int .i64 0, .str ByteArray.empty] xs (i + 1) = ro.set (Int.toNat n4) [.int .i64 q1, .int .i64 k4, .str b3] := by
   rw [hro, hn4]; exact (fill_set eoMail _ xs a1).symm
  obtain ⟨ro2, b5⟩ : ∃ r, r = fill eoMail [.int .i64 0, .int .i64 0, .str ByteArray.empty] xs (i + 1) := ⟨_, rfl⟩
  rw [← b5] at hset
  refine ops_step rfl rfl (sto_arr (r := [.int .i64 0, .int .i64 0, .str ByteArray.empty]) (cs := [.int .i64 q1, .int .i64 k4, .str b3]) rfl rfl rfl rfl rfl ⟨_, _, rfl⟩ rfl rfl hz rfl hset) ?_
  refine od ?_
  refine gr (ra hA 3 (by cbv) (od ?_))
  refine ⟨(S148_1 a0 (A.num .add .i64 n4 1) ro2), List.length xs - (i + 1), ?_, by cbv, i + 1, ro2, (A.num .add .i64 n4 1), rfl, ?_, rfl⟩
  ·
   omega
  ·
   exact ⟨by rw [add_i64 hA (by omega) (by omega)]; omega, by omega, b5⟩
 ·
  have ec1 : (A.rlen a0) ≤ n4 := lss_f hA c1
  refine go_exit ⟨fun _ => ?_, fun h => absurd rfl h⟩
  refine gs (gr (ra hA 2 (by cbv) (od ?_)))
  refine go_ret ⟨_, by cbv, ?_⟩
  show _ = (PV.ow 3 ro)
  refine congrArg (PV.ow 3) ?_
  rw [hro, fill_all _ _ _ (by omega)]
def S149_1 (p0 : RR) (p1 : Int) (p2 : RR) : St := { sl := [.sl 1 p0, .bad, .bad, .own 7, .int .i64 p1, .bad, .bad, .bad, .bad, .bad, .bad, .bad, .bad, .bad, .bad, .bad, .bad, .bad, .bad, .bad, .bad, .bad], bl := [(7, ⟨.arr, 1, p2⟩)] }
theorem r_laws_toBoolS (A : Alg) (hA : A = std) (xs : List Bool) (hk : ∀ k ∈ zsBoolS xs, k ≤ 1048576) : Real Tryz.prog 149 [.sl 1 (List.map eBool xs)] (.ow 1 (List.map eBool xs)) := by
 obtain ⟨a0, a2⟩ := nm (xs.map eBool)
 have d4 := rlen_map hA a2
 refine real_args (args' := [.sl 1 a0]) (by subst a2; rfl) ?_
 have hlen : List.length xs ≤ 1048576 := hk _ (by simp [zsBoolS])
 refine real tyOk Tryz.func149 (by kernel_rfl) (afun_of rfl ?_)
 refine gs (gr (ra hA 1 (by cbv) (od ?_)))
 refine gs (gr (ra hA 2 (by cbv) ?_))
 obtain ⟨rm, hrm⟩ := nm (List.replicate (Int.toNat (A.rlen a0)) [.bool false] : RR)
 have hn0 : (0 : Int) ≤ A.rlen a0 := by omega
 have hmax : A.rlen a0 * 1 ≤ 140737488355328 := by omega
 refine ops_step rfl rfl (mk_arr rfl rfl rfl rfl rfl rfl hn0 hmax (by decide) (by decide) rfl hrm) ?_
 refine ra hA 1 (by cbv) (od ?_)
 refine gs (gs (gr (ra hA 1 (by cbv) (od ?_))))
 refine go_block ?_
 refine go_loopE (fun σ m => ∃ (i : Nat) (ro : RR) (n4 : Int), σ = (S149_1 a0 n4 ro) ∧ (n4 = (i : Int) ∧ i ≤ List.length xs ∧ ro = fill eBool [.bool false] xs i) ∧ m = List.length xs - i) _ [] [0, 3, 4] [7] (S149_1 a0 0 rm) rfl (by cbv) ⟨0, rm, 0, rfl, ?_, rfl⟩ (fun σ m hI => ?_)
 ·
  exact ⟨rfl, Nat.zero_le _, by rw [hrm, fill_zero, d4]; rfl⟩
 obtain ⟨i, ro, n4, rfl, ⟨hn4, hi, hro⟩, rfl⟩ := hI
 refine gs (gs (gr (ra hA 4 (by cbv) (od ?_))))
 refine go_cond rfl (fun c1 => ?_) (fun c1 => ?_)
 ·
  have ec1 : n4 < (A.rlen a0) := lss_t hA c1
  refine gk (gs ?_)
  refine go_block ?_
  refine gr (ra hA 4 (by cbv) ?_)
  have g6 : (0 : Int) ≤ n4 := by
   omega
  have i0 : (Int.toNat n4) < List.length xs := by
   omega
  obtain ⟨x2, hx2⟩ : ∃ x, (xs)[(Int.toNat n4)]? = some x := ⟨_, List.getElem?_eq_getElem i0⟩
  have l9 := List.mem_of_getElem? hx2
  have g9 : a0[(Int.toNat n4)]? = some [.bool x2] := by
   exact map_at eBool a2 hx2
  refine ops_step rfl rfl (idx_sl rfl rfl rfl rfl rfl g6 rfl g9) ?_
  refine ra hA 1 (by cbv) ?_
  have hlo : n4 < (List.length ro : Int) := by
   rw [hro, fill_len _ _ _ hi]; omega
  refine ops_step rfl rfl (idx_own rfl rfl rfl rfl rfl rfl (by omega) hlo rfl) ?_
  have a1 := hx2
  rw [hn4] at a1
  have a1 : xs[i]? = some _ := a1
  have hz : ro[Int.toNat n4]? = some [.bool false] := by
   rw [hro, hn4]; exact fill_at _ _ _ (by omega)
  have hset : fill eBool [.bool false] xs (i + 1) = ro.set (Int.toNat n4) [.bool x2] := by
   rw [hro, hn4]; exact (fill_set eBool _ xs a1).symm
  obtain ⟨ro2, b5⟩ : ∃ r, r = fill eBool [.bool false] xs (i + 1) := ⟨_, rfl⟩
  rw [← b5] at hset
  refine ops_step rfl rfl (sto_arr (r := [.bool false]) (cs := [.bool x2]) rfl rfl rfl rfl rfl ⟨_, _, rfl⟩ rfl rfl hz rfl hset) ?_
  refine od ?_
  refine gr (ra hA 3 (by cbv) (od ?_))
  refine ⟨(S149_1 a0 (A.num .add .i64 n4 1) ro2), List.length xs - (i + 1), ?_, by cbv, i + 1, ro2, (A.num .add .i64 n4 1), rfl, ?_, rfl⟩
  ·
   omega
  ·
   exact ⟨by rw [add_i64 hA (by omega) (by omega)]; omega, by omega, b5⟩
 ·
  have ec1 : (A.rlen a0) ≤ n4 := lss_f hA c1
  refine go_exit ⟨fun _ => ?_, fun h => absurd rfl h⟩
  refine gs (gr (ra hA 2 (by cbv) (od ?_)))
  refine go_ret ⟨_, by cbv, ?_⟩
  show _ = (PV.ow 1 ro)
  refine congrArg (PV.ow 1) ?_
  rw [hro, fill_all _ _ _ (by omega)]
theorem r_laws_toFetch (A : Alg) (hA : A = std) (x : GFetch) (hk : ∀ k ∈ zsFetch x, k ≤ 1048576) : Real Tryz.prog 108 [.agg (eFetch x)] (.agg (eoFetch x)) := by
 obtain ⟨i5, l2, u5, w7⟩ := x
 obtain ⟨v4, r2⟩ := nm (u5.map eMail)
 have E7 := rlen_map hA r2
 obtain ⟨w2, s7⟩ := nm (w7.map eBool)
 have E8 := rlen_map hA s7
 refine real_args (args' := [.agg [.int .i64 i5, .str l2, .sl 3 v4, .sl 1 w2]]) (by subst r2 s7; rfl) ?_
 refine real tyOk Tryz.func108 (by kernel_rfl) (afun_of rfl ?_)
 refine gs (gr (ra hA 2 (by cbv) (od ?_)))
 refine gs (gr (ra hA 1 (by cbv) (od ?_)))
 refine gs (gr (ra hA 4 (by cbv) (od ?_)))
 refine gs (gr (ra hA 4 (by cbv) (od ?_)))
 refine gs (gr (ra hA 2 (by cbv) ?_))
 obtain ⟨m6, s9, hc2⟩ : ∃ (m6 : RR), m6 = List.map eoMail u5 ∧ Real Tryz.prog 148 [.sl 3 v4] (.ow 3 m6) := ⟨_, rfl, by subst r2; exact r_laws_toMailS A hA u5 (fun k h => hk k (by simp only [zsFetch, List.mem_append]; simp only [h, true_or, or_true]))⟩
 have D6 := rlen_map hA s9
 refine ops_callV rfl rfl (by cbv) (by cbv) hc2 (.inr rfl) (by cbv) ?_
 refine ra hA 2 (by cbv) (od ?_)
 refine gs (gr (ra hA 2 (by cbv) ?_))
 obtain ⟨n0, s6, hc4⟩ : ∃ (n0 : RR), n0 = List.map eBool w7 ∧ Real Tryz.prog 149 [.sl 1 w2] (.ow 1 n0) := ⟨_, rfl, by subst s7; exact r_laws_toBoolS A hA w7 (fun k h => hk k (by simp only [zsFetch, List.mem_append]; simp only [h, true_or, or_true]))⟩
 have D2 := rlen_map hA s6
 refine ops_callV rfl rfl (by cbv) (by cbv) hc4 (.inr rfl) (by cbv) ?_
 refine ra hA 2 (by cbv) (od ?_)
 refine gs (gr (ra hA 2 (by cbv) (od ?_)))
 refine go_ret ⟨_, by cbv, ?_⟩
 show _ = (PV.agg [.int .i64 i5, .str l2, .ow 3 m6, .ow 1 n0])
 subst s9 s6
 rfl
theorem r_laws_toLook (A : Alg) (hA : A = std) (x : GLook) (hk : ∀ k ∈ zsLook x, k ≤ 1048576) : Real Tryz.prog 109 [.agg (eLook x)] (.agg (eoLook x)) := by
 obtain ⟨i5, l2, B9, q4, w9⟩ := x
 obtain ⟨w4, r9⟩ := nm (w9.map eInt)
 have F1 := rlen_map hA r9
 refine real_args (args' := [.agg [.int .i64 i5, .str l2, .str B9, .int .i64 q4, .sl 1 w4]]) (by subst r9; rfl) ?_
 refine real tyOk Tryz.func109 (by kernel_rfl) (afun_of rfl ?_)
 refine gs (gr (ra hA 2 (by cbv) (od ?_)))
 refine gs (gr (ra hA 1 (by cbv) (od ?_)))
 refine gs (gr (ra hA 4 (by cbv) (od ?_)))
 refine gs (gr (ra hA 4 (by cbv) (od ?_)))
 refine gs (gr (ra hA 4 (by cbv) (od ?_)))
 refine gs (gr (ra hA 4 (by cbv) (od ?_)))
 refine gs (gr (ra hA 2 (by cbv) ?_))
 obtain ⟨w1, y1, hc2⟩ : ∃ (w1 : RR), w1 = List.map eInt w9 ∧ Real Tryz.prog 60 [.sl 1 w4] (.ow 1 w1) := ⟨_, rfl, by subst r9; exact r_laws_toIntS A hA w9 (fun k h => hk k (by simp only [zsLook, List.mem_append]; simp only [h, true_or, or_true]))⟩
 have F6 := rlen_map hA y1
 refine ops_callV rfl rfl (by cbv) (by cbv) hc2 (.inr rfl) (by cbv) ?_
 refine ra hA 2 (by cbv) (od ?_)
 refine gs (gr (ra hA 2 (by cbv) (od ?_)))
 refine go_ret ⟨_, by cbv, ?_⟩
 show _ = (PV.agg [.int .i64 i5, .str l2, .str B9, .int .i64 q4, .ow 1 w1])
 subst y1
 rfl
theorem r_laws_toSession (A : Alg) (hA : A = std) (x : GSession) (hk : ∀ k ∈ zsSession x, k ≤ 1048576) : Real Tryz.prog 61 [.agg (eSession x)] (.agg (eoSession x)) := by
 obtain ⟨s4, D0, C0, y0, ⟨d7, f1, r0, n5⟩, ⟨d8, f4, l5, n6⟩, ⟨f0, f9, j2, f2, p4⟩⟩ := x
 obtain ⟨r8, l7⟩ := nm (r0.map eString)
 have C7 := rlen_map hA l7
 obtain ⟨q5, i6⟩ := nm (n5.map eString)
 have B4 := rlen_map hA i6
 obtain ⟨o3, g8⟩ := nm (l5.map eMail)
 have z8 := rlen_map hA g8
 obtain ⟨q3, j9⟩ := nm (n6.map eBool)
 have B5 := rlen_map hA j9
 obtain ⟨r5, k0⟩ := nm (p4.map eInt)
 have C2 := rlen_map hA k0
 refine real_args (args' := [.agg [.int .i64 s4, .str D0, .str C0, .bool y0, .int .i64 d7, .str f1, .sl 1 r8, .sl 1 q5, .int .i64 d8, .str f4, .sl 3 o3, .sl 1 q3, .int .i64 f0, .str f9, .str j2, .int .i64 f2, .sl 1 r5]]) (by subst l7 i6 g8 j9 k0; rfl) ?_
 refine real tyOk Tryz.func61 (by kernel_rfl) (afun_of rfl ?_)
 refine gs (gr (ra hA 2 (by cbv) (od ?_)))
 refine gs (gr (ra hA 1 (by cbv) (od ?_)))
 refine gs (gr (ra hA 4 (by cbv) (od ?_)))
 refine gs (gr (ra hA 4 (by cbv) (od ?_)))
 refine gs (gr (ra hA 4 (by cbv) (od ?_)))
 refine gs (gr (ra hA 4 (by cbv) (od ?_)))
 refine gs (gr (ra hA 2 (by cbv) ?_))
 obtain ⟨r1, m5, v0, t4, hc2⟩ : ∃ (r1 : RR) (m5 : RR), r1 = List.map eString r0 ∧ m5 = List.map eString n5 ∧ Real Tryz.prog 107 [.agg [.int .i64 d7, .str f1, .sl 1 r8, .sl 1 q5]] (.agg [.int .i64 d7, .str f1, .ow 1 r1, .ow 1 m5]) := ⟨_, _, rfl, rfl, by subst l7 i6; exact r_laws_toBring A hA (⟨d7, f1, r0, n5⟩ : GBring) (fun k h => hk k (by simp only [zsSession, List.mem_append]; simp only [h, true_or, or_true]))⟩
 have F2 := rlen_map hA v0
 have E1 := rlen_map hA t4
 refine ops_callV rfl rfl (by cbv) (by cbv) hc2 (.inr rfl) (by cbv) ?_
 refine ra hA 2 (by cbv) (od ?_)
 refine gs (gr (ra hA 2 (by cbv) ?_))
 obtain ⟨k5, m8, s8, t9, hc4⟩ : ∃ (k5 : RR) (m8 : RR), k5 = List.map eoMail l5 ∧ m8 = List.map eBool n6 ∧ Real Tryz.prog 108 [.agg [.int .i64 d8, .str f4, .sl 3 o3, .sl 1 q3]] (.agg [.int .i64 d8, .str f4, .ow 3 k5, .ow 1 m8]) := ⟨_, _, rfl, rfl, by subst g8 j9; exact r_laws_toFetch A hA (⟨d8, f4, l5, n6⟩ : GFetch) (fun k h => hk k (by simp only [zsSession, List.mem_append]; simp only [h, true_or, or_true]))⟩
 have D1 := rlen_map hA s8
 have E0 := rlen_map hA t9
 refine ops_callV rfl rfl (by cbv) (by cbv) hc4 (.inr rfl) (by cbv) ?_
 refine ra hA 2 (by cbv) (od ?_)
 refine gs (gr (ra hA 2 (by cbv) ?_))
 obtain ⟨m9, t8, hc6⟩ : ∃ (m9 : RR), m9 = List.map eInt p4 ∧ Real Tryz.prog 109 [.agg [.int .i64 f0, .str f9, .str j2, .int .i64 f2, .sl 1 r5]] (.agg [.int .i64 f0, .str f9, .str j2, .int .i64 f2, .ow 1 m9]) := ⟨_, rfl, by subst k0; exact r_laws_toLook A hA (⟨f0, f9, j2, f2, p4⟩ : GLook) (fun k h => hk k (by simp only [zsSession, List.mem_append]; simp only [h, true_or, or_true]))⟩
 have D9 := rlen_map hA t8
 refine ops_callV rfl rfl (by cbv) (by cbv) hc6 (.inr rfl) (by cbv) ?_
 refine ra hA 2 (by cbv) (od ?_)
 refine gs (gr (ra hA 2 (by cbv) (od ?_)))
 refine go_ret ⟨_, by cbv, ?_⟩
 show _ = (PV.agg [.int .i64 s4, .str D0, .str C0, .bool y0, .int .i64 d7, .str f1, .ow 1 r1, .ow 1 m5, .int .i64 d8, .str f4, .ow 3 k5, .ow 1 m8, .int .i64 f0, .str f9, .str j2, .int .i64 f2, .ow 1 m9])
 subst v0 t4 s8 t9 t8
 rfl
def S31_1 (p0 : RR) (p1 : Int) (p2 : RR) : St := { sl := [.sl 17 p0, .bad, .bad, .own 7, .int .i64 p1, .bad, .bad, .bad, .bad, .bad, .bad, .bad, .bad, .bad, .bad, .bad, .bad, .bad, .bad, .bad, .bad, .bad, .bad], bl := [(7, ⟨.arr, 17, p2⟩)] }
theorem r_laws_toSessionS (A : Alg) (hA : A = std) (xs : List GSession) (hk : ∀ k ∈ zsSessionS xs, k ≤ 1048576) : Real Tryz.prog 31 [.sl 17 (List.map eSession xs)] (.ow 17 (List.map eoSession xs)) := by
 obtain ⟨a0, a2⟩ := nm (xs.map eSession)
 have d4 := rlen_map hA a2
 refine real_args (args' := [.sl 17 a0]) (by subst a2; rfl) ?_
 have hlen : List.length xs ≤ 1048576 := hk _ (by simp [zsSessionS])
 refine real tyOk Tryz.func31 (by kernel_rfl) (afun_of rfl ?_)
 refine gs (gr (ra hA 1 (by cbv) (od ?_)))
 refine gs (gr (ra hA 2 (by cbv) ?_))
 obtain ⟨rm, hrm⟩ := nm (List.replicate (Int.toNat (A.rlen a0)) [.int .i64 0, .str ByteArray.empty, .str ByteArray.empty, .bool false, .int .i64 0, .str ByteArray.empty, .zc, .zc, .int .i64 0, .str ByteArray.empty, .zc, .zc, .int .i64 0, .str ByteArray.empty, .str ByteArray.empty, .int .i64 0, .zc] : RR)
 have hn0 : (0 : Int) ≤ A.rlen a0 := by omega
 have hmax : A.rlen a0 * 264 ≤ 140737488355328 := by omega
 refine ops_step rfl rfl (mk_arr rfl rfl rfl rfl rfl rfl hn0 hmax (by decide) (by decide) rfl hrm) ?_
 refine ra hA 1 (by cbv) (od ?_)
 refine gs (gs (gr (ra hA 1 (by cbv) (od ?_))))
 refine go_block ?_
 refine go_loopE (fun σ m => ∃ (i : Nat) (ro : RR) (n4 : Int), σ = (S31_1 a0 n4 ro) ∧ (n4 = (i : Int) ∧ i ≤ List.length xs ∧ ro = fill eoSession [.int .i64 0, .str ByteArray.empty, .str ByteArray.empty, .bool false, .int .i64 0, .str ByteArray.empty, .zc, .zc, .int .i64 0, .str ByteArray.empty, .zc, .zc, .int .i64 0, .str ByteArray.empty, .str ByteArray.empty, .int .i64 0, .zc] xs i) ∧ m = List.length xs - i) _ [] [0, 3, 4] [7] (S31_1 a0 0 rm) rfl (by cbv) ⟨0, rm, 0, rfl, ?_, rfl⟩ (fun σ m hI => ?_)
 ·
  exact ⟨rfl, Nat.zero_le _, by rw [hrm, fill_zero, d4]; rfl⟩
 obtain ⟨i, ro, n4, rfl, ⟨hn4, hi, hro⟩, rfl⟩ := hI
 refine gs (gs (gr (ra hA 4 (by cbv) (od ?_))))
 refine go_cond rfl (fun c1 => ?_) (fun c1 => ?_)
 ·
  have ec1 : n4 < (A.rlen a0) := lss_t hA c1
  refine gk (gs ?_)
  refine go_block ?_
  refine gr (ra hA 4 (by cbv) ?_)
  have g6 : (0 : Int) ≤ n4 := by
   omega
  have i0 : (Int.toNat n4) < List.length xs := by
   omega
  obtain ⟨x2, hx2⟩ : ∃ x, (xs)[(Int.toNat n4)]? = some x := ⟨_, List.getElem?_eq_getElem i0⟩
  have l9 := List.mem_of_getElem? hx2
  obtain ⟨n2, t3, q2, n1, ⟨b2, c0, p3, l8⟩, ⟨b1, c2, k3, m1⟩, ⟨c3, d0, e2, c4, o0⟩⟩ := x2
  obtain ⟨r6, k2⟩ := nm (p3.map eString)
  have C3 := rlen_map hA k2
  obtain ⟨o4, g7⟩ := nm (l8.map eString)
  have z7 := rlen_map hA g7
  obtain ⟨o1, f7⟩ := nm (k3.map eMail)
  have z1 := rlen_map hA f7
  obtain ⟨o6, i3⟩ := nm (m1.map eBool)
  have B0 := rlen_map hA i3
  obtain ⟨q0, j4⟩ := nm (o0.map eInt)
  have B7 := rlen_map hA j4
  have g9 : a0[(Int.toNat n4)]? = some [.int .i64 n2, .str t3, .str q2, .bool n1, .int .i64 b2, .str c0, .sl 1 r6, .sl 1 o4, .int .i64 b1, .str c2, .sl 3 o1, .sl 1 o6, .int .i64 c3, .str d0, .str e2, .int .i64 c4, .sl 1 q0] := by
   subst k2 g7 f7 i3 j4; exact map_at eSession a2 hx2
  have hkx := fun (k : Nat) h => hk k (List.mem_cons_of_mem _ (List.mem_flatMap.2 ⟨_, l9, h⟩))
  refine ops_step rfl rfl (idx_sl rfl rfl rfl rfl rfl g6 rfl g9) ?_
  refine ra hA 1 (by cbv) ?_
  obtain ⟨d2, b4, a9, b8, c5, o5, m2, k6, m3, o2, hc4⟩ : ∃ (d2 : RR) (b4 : RR) (a9 : RR) (b8 : RR) (c5 : RR), d2 = List.map eString p3 ∧ b4 = List.map eString l8 ∧ a9 = List.map eoMail k3 ∧ b8 = List.map eBool m1 ∧ c5 = List.map eInt o0 ∧ Real Tryz.prog 61 [.agg [.int .i64 n2, .str t3, .str q2, .bool n1, .int .i64 b2, .str c0, .sl 1 r6, .sl 1 o4, .int .i64 b1, .str c2, .sl 3 o1, .sl 1 o6, .int .i64 c3, .str d0, .str e2, .int .i64 c4, .sl 1 q0]] (.agg [.int .i64 n2, .str t3, .str q2, .bool n1, .int .i64 b2, .str c0, .ow 1 d2, .ow 1 b4, .int .i64 b1, .str c2, .ow 3 a9, .ow 1 b8, .int .i64 c3, .str d0, .str e2, .int .i64 c4, .ow 1 c5]) := ⟨_, _, _, _, _, rfl, rfl, rfl, rfl, rfl, by subst k2 g7 f7 i3 j4; exact r_laws_toSession A hA (⟨n2, t3, q2, n1, ⟨b2, c0, p3, l8⟩, ⟨b1, c2, k3, m1⟩, ⟨c3, d0, e2, c4, o0⟩⟩ : GSession) hkx⟩
  have B8 := rlen_map hA o5
  have z3 := rlen_map hA m2
  have y2 := rlen_map hA k6
  have z0 := rlen_map hA m3
  have z5 := rlen_map hA o2
  refine ops_callV rfl rfl (by cbv) (by cbv) hc4 (.inr rfl) (by cbv) ?_
  have hlo : n4 < (List.length ro : Int) := by
   rw [hro, fill_len _ _ _ hi]; omega
  refine ops_step rfl rfl (idx_own rfl rfl rfl rfl rfl rfl (by omega) hlo rfl) ?_
  have a1 := hx2
  rw [hn4] at a1
  have a1 : xs[i]? = some _ := a1
  have hz : ro[Int.toNat n4]? = some [.int .i64 0, .str ByteArray.empty, .str ByteArray.empty, .bool false, .int .i64 0, .str ByteArray.empty, .zc, .zc, .int .i64 0, .str ByteArray.empty, .zc, .zc, .int .i64 0, .str ByteArray.empty, .str ByteArray.empty, .int .i64 0, .zc] := by
   rw [hro, hn4]; exact fill_at _ _ _ (by omega)
  have hset : fill eoSession [.int .i64 0, .str ByteArray.empty, .str ByteArray.empty, .bool false, .int .i64 0, .str ByteArray.empty, .zc, .zc, .int .i64 0, .str ByteArray.empty, .zc, .zc, .int .i64 0, .str ByteArray.empty, .str ByteArray.empty, .int .i64 0, .zc] xs (i + 1) = ro.set (Int.toNat n4) [.int .i64 n2, .str t3, .str q2, .bool n1, .int .i64 b2, .str c0, .ow 1 d2, .ow 1 b4, .int .i64 b1, .str c2, .ow 3 a9, .ow 1 b8, .int .i64 c3, .str d0, .str e2, .int .i64 c4, .ow 1 c5] := by
   rw [hro, hn4]; subst o5 m2 k6 m3 o2; exact (fill_set eoSession _ xs a1).symm
  obtain ⟨ro2, b5⟩ : ∃ r, r = fill eoSession [.int .i64 0, .str ByteArray.empty, .str ByteArray.empty, .bool false, .int .i64 0, .str ByteArray.empty, .zc, .zc, .int .i64 0, .str ByteArray.empty, .zc, .zc, .int .i64 0, .str ByteArray.empty, .str ByteArray.empty, .int .i64 0, .zc] xs (i + 1) := ⟨_, rfl⟩
  rw [← b5] at hset
  refine ops_step rfl rfl (sto_arr (r := [.int .i64 0, .str ByteArray.empty, .str ByteArray.empty, .bool false, .int .i64 0, .str ByteArray.empty, .zc, .zc, .int .i64 0, .str ByteArray.empty, .zc, .zc, .int .i64 0, .str ByteArray.empty, .str ByteArray.empty, .int .i64 0, .zc]) (cs := [.int .i64 n2, .str t3, .str q2, .bool n1, .int .i64 b2, .str c0, .ow 1 d2, .ow 1 b4, .int .i64 b1, .str c2, .ow 3 a9, .ow 1 b8, .int .i64 c3, .str d0, .str e2, .int .i64 c4, .ow 1 c5]) rfl rfl rfl rfl rfl ⟨_, _, rfl⟩ rfl rfl hz rfl hset) ?_
  refine od ?_
  refine gr (ra hA 3 (by cbv) (od ?_))
  refine ⟨(S31_1 a0 (A.num .add .i64 n4 1) ro2), List.length xs - (i + 1), ?_, by cbv, i + 1, ro2, (A.num .add .i64 n4 1), rfl, ?_, rfl⟩
  ·
   omega
  ·
   exact ⟨by rw [add_i64 hA (by omega) (by omega)]; omega, by omega, b5⟩
 ·
  have ec1 : (A.rlen a0) ≤ n4 := lss_f hA c1
  refine go_exit ⟨fun _ => ?_, fun h => absurd rfl h⟩
  refine gs (gr (ra hA 2 (by cbv) (od ?_)))
  refine go_ret ⟨_, by cbv, ?_⟩
  show _ = (PV.ow 17 ro)
  refine congrArg (PV.ow 17) ?_
  rw [hro, fill_all _ _ _ (by omega)]
theorem r_laws_toServer (A : Alg) (hA : A = std) (x : GServer) (hk : ∀ k ∈ zsServer x, k ≤ 1048576) : Real Tryz.prog 9 [.agg (eServer x)] (.agg (eoServer x)) := by
 obtain ⟨⟨⟨⟨b6, c7⟩, b7, i2, a5, a4, a8, a3⟩, l6⟩, q8⟩ := x
 obtain ⟨d6, a6⟩ := nm (b6.map eString)
 have v2 := rlen_map hA a6
 obtain ⟨f3, b0⟩ := nm (c7.map eWrite)
 have v8 := rlen_map hA b0
 obtain ⟨l1, e6⟩ := nm (i2.map eSeg)
 have x7 := rlen_map hA e6
 obtain ⟨o8, i4⟩ := nm (l6.map eInt)
 have z6 := rlen_map hA i4
 obtain ⟨s5, m0⟩ := nm (q8.map eSession)
 have C5 := rlen_map hA m0
 refine real_args (args' := [.agg [.sl 1 d6, .sl 2 f3, .int .i64 b7, .sl 4 l1, .int .i64 a5, .int .i64 a4, .int .i64 a8, .int .i64 a3, .sl 1 o8, .sl 17 s5]]) (by subst a6 b0 e6 i4 m0; rfl) ?_
 refine real tyOk Tryz.func9 (by kernel_rfl) (afun_of rfl ?_)
 refine gs (gr (ra hA 2 (by cbv) (od ?_)))
 refine gs (gr (ra hA 1 (by cbv) (od ?_)))
 refine gs (gr (ra hA 2 (by cbv) ?_))
 obtain ⟨a7, b9, g5, m7, g1, j5, p6, t7, hc2⟩ : ∃ (a7 : RR) (b9 : RR) (g5 : RR) (m7 : RR), a7 = List.map eString b6 ∧ b9 = List.map eoWrite c7 ∧ g5 = List.map eoSeg i2 ∧ m7 = List.map eInt l6 ∧ Real Tryz.prog 30 [.agg [.sl 1 d6, .sl 2 f3, .int .i64 b7, .sl 4 l1, .int .i64 a5, .int .i64 a4, .int .i64 a8, .int .i64 a3, .sl 1 o8]] (.agg [.ow 1 a7, .ow 2 b9, .int .i64 b7, .ow 4 g5, .int .i64 a5, .int .i64 a4, .int .i64 a8, .int .i64 a3, .ow 1 m7]) := ⟨_, _, _, _, rfl, rfl, rfl, rfl, by subst a6 b0 e6 i4; exact r_laws_toStore A hA (⟨⟨⟨b6, c7⟩, b7, i2, a5, a4, a8, a3⟩, l6⟩ : GStore) (fun k h => hk k (by simp only [zsServer, List.mem_append]; simp only [h, true_or, or_true]))⟩
 have x0 := rlen_map hA g1
 have x5 := rlen_map hA j5
 have C4 := rlen_map hA p6
 have D7 := rlen_map hA t7
 refine ops_callV rfl rfl (by cbv) (by cbv) hc2 (.inr rfl) (by cbv) ?_
 refine ra hA 2 (by cbv) (od ?_)
 refine gs (gr (ra hA 2 (by cbv) ?_))
 obtain ⟨e8, k9, hc4⟩ : ∃ (e8 : RR), e8 = List.map eoSession q8 ∧ Real Tryz.prog 31 [.sl 17 s5] (.ow 17 e8) := ⟨_, rfl, by subst m0; exact r_laws_toSessionS A hA q8 (fun k h => hk k (by simp only [zsServer, List.mem_append]; simp only [h, true_or, or_true]))⟩
 have y5 := rlen_map hA k9
 refine ops_callV rfl rfl (by cbv) (by cbv) hc4 (.inr rfl) (by cbv) ?_
 refine ra hA 2 (by cbv) (od ?_)
 refine gs (gr (ra hA 2 (by cbv) (od ?_)))
 refine go_ret ⟨_, by cbv, ?_⟩
 show _ = (PV.agg [.ow 1 a7, .ow 2 b9, .int .i64 b7, .ow 4 g5, .int .i64 a5, .int .i64 a4, .int .i64 a8, .int .i64 a3, .ow 1 m7, .ow 17 e8])
 subst g1 j5 p6 t7 k9
 rfl
end Go.Av

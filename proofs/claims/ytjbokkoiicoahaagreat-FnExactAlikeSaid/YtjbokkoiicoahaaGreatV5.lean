/- Walks: to of plain servers. -/
import Derived.Test.YtjbokkoiicoahaaGreatV2
namespace Go.Av
open Go Go.Proofs
set_option maxRecDepth 100000
set_option maxHeartbeats 4000000
set_option linter.unusedVariables false
set_option linter.unusedSimpArgs false
theorem r_laws_toBox (A : Alg) (hA : A = std) (x : GBox) (hk : ∀ k ∈ zsBox x, k ≤ 1048576) : Real Tryz.prog 122 [.agg (eBox x)] (.agg (eoBox x)) := by
 obtain ⟨c8, d4, d3, d6, c2⟩ := x
 obtain ⟨c4, b4⟩ := nm (c2.map eMail)
 have e4 := rlen_map hA b4
 refine real_args (args' := [.agg [.ii c8, .str d4, .str d3, .ii d6, .sl 3 c4]]) (by subst b4; rfl) ?_
 refine real tyOk Tryz.func122 (by kernel_rfl) (afun_of rfl ?_)
 refine gx hA 2 ?_
 refine gx hA 1 ?_
 refine gx hA 4 ?_
 refine gx hA 4 ?_
 refine gx hA 4 ?_
 refine gx hA 4 ?_
 refine gs (gr (rn hA 2 ?_))
 obtain ⟨c6, d2, hc2⟩ : ∃ (c6 : RR), c6 = List.map eoMail c2 ∧ Real Tryz.prog 148 [.sl 3 c4] (.ow 3 c6) := ⟨_, rfl, by subst b4; exact r_laws_toMailS A hA c2 (fun k h => hk k (by simp only [zsBox, List.mem_append]; simp only [h, true_or, or_true]))⟩
 have f1 := rlen_map hA d2
 refine ops_callV rfl rfl (by cbv) (by cbv) hc2 (.inr rfl) (by cbv) ?_
 refine rz hA 2 ?_
 refine gx hA 2 ?_
 refine go_ret ⟨_, by cbv, ?_⟩
 show _ = (PV.agg [.ii c8, .str d4, .str d3, .ii d6, .ow 3 c6])
 subst d2
 rfl
def S82_1 (p0 : RR) (p1 : Int) (p2 : RR) : St := { sl := [.sl 5 p0, .bad, .bad, .own 7, .ii p1, .bad, .bad, .bad, .bad, .bad, .bad, .bad, .bad, .bad, .bad, .bad, .bad, .bad, .bad, .bad, .bad, .bad, .bad], bl := [(7, ⟨.arr, 5, p2⟩)] }
theorem r_laws_toBoxS (A : Alg) (hA : A = std) (xs : List GBox) (hk : ∀ k ∈ zsBoxS xs, k ≤ 1048576) : Real Tryz.prog 82 [.sl 5 (List.map eBox xs)] (.ow 5 (List.map eoBox xs)) := by
 obtain ⟨b0, d1⟩ := nm (xs.map eBox)
 have e5 := rlen_map hA d1
 refine real_args (args' := [.sl 5 b0]) (by subst d1; rfl) ?_
 have hlen : List.length xs ≤ 1048576 := hk _ (by simp [zsBoxS])
 refine real tyOk Tryz.func82 (by kernel_rfl) (afun_of rfl ?_)
 refine gx hA 1 ?_
 refine gs (gr (rn hA 2 ?_))
 obtain ⟨rm, hrm⟩ := nm (List.replicate (Int.toNat (A.rlen b0)) [.ii 0, .str ByteArray.empty, .str ByteArray.empty, .ii 0, .zc] : RR)
 have hn0 : (0 : Int) ≤ A.rlen b0 := by omega
 have hmax : A.rlen b0 * 72 ≤ 140737488355328 := by omega
 refine ops_step rfl rfl (mk_arr rfl rfl rfl rfl rfl rfl hn0 hmax (by decide) (by decide) rfl hrm) ?_
 refine rz hA 1 ?_
 refine gs (gx hA 1 ?_)
 refine go_block ?_
 refine go_loopE (fun σ m => ∃ (i : Nat) (ro : RR) (n4 : Int), σ = (S82_1 b0 n4 ro) ∧ (n4 = (i : Int) ∧ i ≤ List.length xs ∧ ro = fill eoBox [.ii 0, .str ByteArray.empty, .str ByteArray.empty, .ii 0, .zc] xs i) ∧ m = List.length xs - i) _ [] [0, 3, 4] [7] (S82_1 b0 0 rm) rfl (by cbv) ⟨0, rm, 0, rfl, ?_, rfl⟩ (fun σ m hI => ?_)
 ·
  exact ⟨rfl, Nat.zero_le _, by rw [hrm, fill_zero, e5]; rfl⟩
 obtain ⟨i, ro, n4, rfl, ⟨hn4, hi, hro⟩, rfl⟩ := hI
 refine gs (gx hA 4 ?_)
 refine go_cond rfl (fun c1 => ?_) (fun c1 => ?_)
 ·
  have ec1 : n4 < (A.rlen b0) := lss_t hA c1
  refine gk (gs ?_)
  refine go_block ?_
  refine gr (rn hA 4 ?_)
  have e8 : (0 : Int) ≤ n4 := by
   omega
  have e9 : (Int.toNat n4) < List.length xs := by
   omega
  obtain ⟨x2, hx2⟩ : ∃ x, (xs)[(Int.toNat n4)]? = some x := ⟨_, List.getElem?_eq_getElem e9⟩
  have e7 := List.mem_of_getElem? hx2
  obtain ⟨a2, a6, a7, a8, b9⟩ := x2
  obtain ⟨c0, b1⟩ := nm (b9.map eMail)
  have e3 := rlen_map hA b1
  have f0 : b0[(Int.toNat n4)]? = some [.ii a2, .str a6, .str a7, .ii a8, .sl 3 c0] := by
   subst b1; exact map_at eBox d1 hx2
  have hkx := fun (k : Nat) h => hk k (List.mem_cons_of_mem _ (List.mem_flatMap.2 ⟨_, e7, h⟩))
  refine ops_step rfl rfl (idx_sl rfl rfl rfl rfl rfl e8 rfl f0) ?_
  refine rn hA 1 ?_
  obtain ⟨a0, b5, hc4⟩ : ∃ (a0 : RR), a0 = List.map eoMail b9 ∧ Real Tryz.prog 122 [.agg [.ii a2, .str a6, .str a7, .ii a8, .sl 3 c0]] (.agg [.ii a2, .str a6, .str a7, .ii a8, .ow 3 a0]) := ⟨_, rfl, by subst b1; exact r_laws_toBox A hA (⟨a2, a6, a7, a8, b9⟩ : GBox) hkx⟩
  have e1 := rlen_map hA b5
  refine ops_callV rfl rfl (by cbv) (by cbv) hc4 (.inr rfl) (by cbv) ?_
  have hlo : n4 < (List.length ro : Int) := by
   rw [hro, fill_len _ _ _ hi]; omega
  refine ops_step rfl rfl (idx_own rfl rfl rfl rfl rfl rfl (by omega) hlo rfl) ?_
  have d0 := hx2
  rw [hn4] at d0
  have d0 : xs[i]? = some _ := d0
  have hz : ro[Int.toNat n4]? = some [.ii 0, .str ByteArray.empty, .str ByteArray.empty, .ii 0, .zc] := by
   rw [hro, hn4]; exact fill_at _ _ _ (by omega)
  have hset : fill eoBox [.ii 0, .str ByteArray.empty, .str ByteArray.empty, .ii 0, .zc] xs (i + 1) = ro.set (Int.toNat n4) [.ii a2, .str a6, .str a7, .ii a8, .ow 3 a0] := by
   rw [hro, hn4]; subst b5; exact (fill_set eoBox _ xs d0).symm
  obtain ⟨ro2, e0⟩ : ∃ r, r = fill eoBox [.ii 0, .str ByteArray.empty, .str ByteArray.empty, .ii 0, .zc] xs (i + 1) := ⟨_, rfl⟩
  rw [← e0] at hset
  refine ops_step rfl rfl (sto_arr (r := [.ii 0, .str ByteArray.empty, .str ByteArray.empty, .ii 0, .zc]) (cs := [.ii a2, .str a6, .str a7, .ii a8, .ow 3 a0]) rfl rfl rfl rfl rfl ⟨_, _, rfl⟩ rfl rfl hz rfl hset) ?_
  refine od ?_
  refine gy hA 3 ?_
  refine ⟨(S82_1 b0 (A.num .add .i64 n4 1) ro2), List.length xs - (i + 1), ?_, by cbv, i + 1, ro2, (A.num .add .i64 n4 1), rfl, ?_, rfl⟩
  ·
   omega
  exact ⟨by rw [add_i64 hA (by omega) (by omega)]; omega, by omega, e0⟩
 have ec1 : (A.rlen b0) ≤ n4 := lss_f hA c1
 refine go_exit ⟨fun _ => ?_, fun h => absurd rfl h⟩
 refine gx hA 2 ?_
 refine go_ret ⟨_, by cbv, ?_⟩
 show _ = (PV.ow 5 ro)
 refine congrArg (PV.ow 5) ?_
 rw [hro, fill_all _ _ _ (by omega)]
theorem r_laws_toState (A : Alg) (hA : A = std) (x : GState) (hk : ∀ k ∈ zsState x, k ≤ 1048576) : Real Tryz.prog 45 [.agg (eState x)] (.agg (eoState x)) := by
 obtain ⟨c3⟩ := x
 obtain ⟨c5, b3⟩ := nm (c3.map eBox)
 have e6 := rlen_map hA b3
 refine real_args (args' := [.agg [.sl 5 c5]]) (by subst b3; rfl) ?_
 refine real tyOk Tryz.func45 (by kernel_rfl) (afun_of rfl ?_)
 refine gx hA 2 ?_
 refine gx hA 1 ?_
 refine gs (gr (rn hA 2 ?_))
 obtain ⟨c9, d8, hc2⟩ : ∃ (c9 : RR), c9 = List.map eoBox c3 ∧ Real Tryz.prog 82 [.sl 5 c5] (.ow 5 c9) := ⟨_, rfl, by subst b3; exact r_laws_toBoxS A hA c3 (fun k h => hk k (by simp only [zsState, List.mem_append]; simp only [h, true_or, or_true]))⟩
 have f3 := rlen_map hA d8
 refine ops_callV rfl rfl (by cbv) (by cbv) hc2 (.inr rfl) (by cbv) ?_
 refine rz hA 2 ?_
 refine gx hA 2 ?_
 refine go_ret ⟨_, by cbv, ?_⟩
 show _ = (PV.agg [.ow 5 c9])
 subst d8
 rfl
theorem r_laws_toPlain (A : Alg) (hA : A = std) (x : GPlain) (hk : ∀ k ∈ zsPlain x, k ≤ 1048576) : Real Tryz.prog 18 [.agg (ePlain x)] (.agg (eoPlain x)) := by
 obtain ⟨⟨a3⟩, b8, b2⟩ := x
 obtain ⟨a9, a1⟩ := nm (a3.map eBox)
 have d7 := rlen_map hA a1
 obtain ⟨b6, a4⟩ := nm (b2.map eSession)
 have d9 := rlen_map hA a4
 refine real_args (args' := [.agg [.sl 5 a9, .ii b8, .sl 17 b6]]) (by subst a1 a4; rfl) ?_
 refine real tyOk Tryz.func18 (by kernel_rfl) (afun_of rfl ?_)
 refine gx hA 2 ?_
 refine gx hA 1 ?_
 refine gs (gr (rn hA 2 ?_))
 obtain ⟨a5, b7, hc2⟩ : ∃ (a5 : RR), a5 = List.map eoBox a3 ∧ Real Tryz.prog 45 [.agg [.sl 5 a9]] (.agg [.ow 5 a5]) := ⟨_, rfl, by subst a1; exact r_laws_toState A hA (⟨a3⟩ : GState) (fun k h => hk k (by simp only [zsPlain, List.mem_append]; simp only [h, true_or, or_true]))⟩
 have e2 := rlen_map hA b7
 refine ops_callV rfl rfl (by cbv) (by cbv) hc2 (.inr rfl) (by cbv) ?_
 refine rz hA 2 ?_
 refine gx hA 4 ?_
 refine gs (gr (rn hA 2 ?_))
 obtain ⟨c7, d5, hc4⟩ : ∃ (c7 : RR), c7 = List.map eoSession b2 ∧ Real Tryz.prog 31 [.sl 17 b6] (.ow 17 c7) := ⟨_, rfl, by subst a4; exact r_laws_toSessionS A hA b2 (fun k h => hk k (by simp only [zsPlain, List.mem_append]; simp only [h, true_or, or_true]))⟩
 have f2 := rlen_map hA d5
 refine ops_callV rfl rfl (by cbv) (by cbv) hc4 (.inr rfl) (by cbv) ?_
 refine rz hA 2 ?_
 refine gx hA 2 ?_
 refine go_ret ⟨_, by cbv, ?_⟩
 show _ = (PV.agg [.ow 5 a5, .ii b8, .ow 17 c7])
 subst b7 d5
 rfl
end Go.Av

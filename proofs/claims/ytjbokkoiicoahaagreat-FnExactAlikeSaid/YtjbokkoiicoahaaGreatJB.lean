/- Walks: PlainOf. -/
import Derived.Test.YtjbokkoiicoahaaGreatJ7
import Derived.Test.YtjbokkoiicoahaaGreatJ9
import Derived.Test.YtjbokkoiicoahaaGreatC5
import Derived.Test.YtjbokkoiicoahaaGreatC6
namespace Go.Av
open Go Go.Proofs
set_option maxRecDepth 100000
set_option maxHeartbeats 4000000
set_option linter.unusedVariables false
set_option linter.unusedSimpArgs false
def S94_1 (p0 : RR) (p1 : Int) (p2 : Int) (p3 : RR) : St := { sl := [.bad, .bad, .bad, .own 6, .bad, .bad, .bad, .bad, .sl 4 p0, .ii p1, .ii p2, .bad, .bad, .bad, .bad, .bad, .bad, .bad, .bad, .bad], bl := [(6, ⟨.arr, 9, p3⟩)] }
theorem r_impl_ItemsOf (A : Alg) (hA : A = std) (x : GLog) (hz : ∀ q ∈ zsLog x, q ≤ 1048576) (hil : (itemsL x.Used).length ≤ 1048576) : Real Tryz.prog 94 [.agg (eLog x)] (.ow 9 (List.map eoItem (itemsL x.Used))) := by
 obtain ⟨⟨a8, b2⟩, e2, a3, d4, d5, e0, c7⟩ := x
 obtain ⟨b3, b8⟩ := nm (a8.map eString)
 have f3 := rlen_map hA b8
 obtain ⟨c3, c4⟩ := nm (b2.map eWrite)
 have f8 := rlen_map hA c4
 obtain ⟨a5, c9⟩ := nm (a3.map eSeg)
 have g6 := rlen_map hA c9
 refine real_args (args' := [.agg [.sl 1 b3, .sl 2 c3, .ii e2, .sl 4 a5, .ii d4, .ii d5, .ii e0, .ii c7]]) (by subst b8 c4 c9; rfl) ?_
 have e4 : ∀ q ∈ zsDisk (⟨a8, b2⟩ : GDisk), q ≤ 1048576 := fun q hq => hz q (by simp only [zsLog, List.mem_append]; simp only [hq, true_or, or_true])
 have d6 : ∀ q ∈ zsStringS a8, q ≤ 1048576 := fun q hq => e4 q (by simp only [zsDisk, List.mem_append]; simp only [hq, true_or, or_true])
 have f7 : List.length a8 ≤ 1048576 := d6 _ (by simp [zsStringS])
 have d9 : ∀ q ∈ zsWriteS b2, q ≤ 1048576 := fun q hq => e4 q (by simp only [zsDisk, List.mem_append]; simp only [hq, true_or, or_true])
 have g1 : List.length b2 ≤ 1048576 := d9 _ (by simp [zsWriteS])
 have f9 : ∀ q ∈ zsSegS a3, q ≤ 1048576 := fun q hq => hz q (by simp only [zsLog, List.mem_append]; simp only [hq, true_or, or_true])
 have i1 : List.length a3 ≤ 1048576 := f9 _ (by simp [zsSegS])
 have hil : (itemsL a3).length ≤ 1048576 := hil
 refine real tyOk Tryz.func94 (by kernel_rfl) (afun_of rfl ?_)
 refine gx hA 2 ?_
 refine gx hA 2 ?_
 refine gs (gx hA 4 ?_)
 refine go_block ?_
 refine go_loopE (fun σ m => ∃ (i : Nat) (n : Int) (R : RR), σ = (S94_1 a5 (A.rlen a5) n R) ∧ (n = (i : Int) ∧ i ≤ List.length a3 ∧ R = List.map eoItem (itemsL (a3.take i))) ∧ m = List.length a3 - i) _ [.up 6, .up 1] [3, 8, 9, 10] [6] (S94_1 a5 (A.rlen a5) 0 ([])) rfl (by cbv) ⟨0, 0, [], rfl, ?_, rfl⟩ (fun σ m hI => ?_)
 ·
  exact ⟨rfl, Nat.zero_le _, rfl⟩
 obtain ⟨i, n, R, rfl, ⟨hn, hi, hR⟩, rfl⟩ := hI
 refine gx hA 1 ?_
 refine gs ?_
 refine go_cond rfl (fun c1 => ?_) (fun c1 => ?_)
 ·
  have ec1 : n < (A.rlen a5) := lss_t hA c1
  refine gk (gs ?_)
  refine go_block ?_
  refine gs (gr ?_)
  have g8 : (0 : Int) ≤ n := by
   omega
  have g9 : (Int.toNat n) < List.length a3 := by
   omega
  obtain ⟨x2, hx2⟩ : ∃ x, (a3)[(Int.toNat n)]? = some x := ⟨_, List.getElem?_eq_getElem g9⟩
  have i3 := List.mem_of_getElem? hx2
  obtain ⟨f6, f0, f2, c6⟩ := x2
  obtain ⟨c2, b5⟩ := nm (c6.map eItem)
  have g4 := rlen_map hA b5
  have i0 : a5[(Int.toNat n)]? = some [.ii f6, .ii f0, .ii f2, .sl 9 c2] := by
   subst b5; exact map_at eSeg c9 hx2
  have e1 := hx2
  rw [hn] at e1
  have e1 : (a3)[i]? = some (⟨f6, f0, f2, c6⟩ : GSeg) := e1
  refine ops_step rfl rfl (idx_sl rfl rfl rfl rfl rfl g8 rfl i0) ?_
  refine rz hA 3 ?_
  refine gr (rn hA 3 ?_)
  obtain ⟨r3, hr3⟩ := nm (R ++ c2 : RR)
  have er3 : r3 = List.map eoItem ((itemsL (a3.take i)) ++ c6) := by rw [hr3]; exact app_eq hR b5
  have lr3 := rlen_map hA er3
  refine ops_step rfl rfl (app_own rfl rfl rfl rfl rfl rfl rfl rfl hr3 (by cbv) (by cbv) (by cbv) rfl (by
   show (List.length R + List.length c2) * _ ≤ _
   have h1 := itemsL_le a3 (i + 1)
   rw [itemsL_at e1, List.length_append] at h1
   have h1 : (itemsL (a3.take i)).length + List.length c6 ≤ (itemsL a3).length := h1
   show (List.length R + List.length c2) * 96 ≤ _
   rw [hR, b5, List.length_map, List.length_map]; omega) (by decide) (by decide)) ?_
  refine rz hA 1 ?_
  refine gy hA 2 ?_
  refine ⟨(S94_1 a5 (A.rlen a5) (A.num .add .i64 n 1) r3), List.length a3 - (i + 1), ?_, by cbv, i + 1, (A.num .add .i64 n 1), r3, rfl, ?_, rfl⟩
  ·
   omega
  refine ⟨by rw [add_i64 hA (by omega) (by omega)]; omega, by omega, ?_⟩
  rw [itemsL_at e1]
  exact er3
 have ec1 : (A.rlen a5) ≤ n := lss_f hA c1
 refine go_exit ⟨fun _ => ?_, fun h => absurd rfl h⟩
 refine gx hA 2 ?_
 refine go_ret ⟨_, by cbv, ?_⟩
 show _ = (PV.ow 9 R)
 refine congrArg (PV.ow 9) ?_
 rw [hR, List.take_of_length_le (by omega)]
def S89_1 (p0 : Int) (p1 : RR) (p2 : RR) (p3 : Int) (p4 : RR) (p5 : Int) (p6 : Int) (p7 : Int) (p8 : Int) (p9 : RR) : St := { sl := [.bad, .pt 1 0 0, .bad, .own 5, .ii p0, .bad, .bad, .bad, .bad, .bad, .bad, .bad, .bad, .bad, .bad, .bad, .bad, .bad, .bad, .bad, .bad, .bad], bl := [(1, ⟨.var, 8, [[.sl 1 p1, .sl 2 p2, .ii p3, .sl 4 p4, .ii p5, .ii p6, .ii p7, .ii p8]]⟩), (5, ⟨.arr, 9, p9⟩)] }
theorem r_spec_ItemsOf (A : Alg) (hA : A = std) (x : GLog) (hz : ∀ q ∈ zsLog x, q ≤ 1048576) (hil : (itemsL x.Used).length ≤ 1048576) : Real Tryz.prog 89 [.agg (eLog x)] (.ow 9 (List.map eoItem (itemsL x.Used))) := by
 obtain ⟨⟨a8, b2⟩, e2, a3, d4, d5, e0, c7⟩ := x
 obtain ⟨b3, b8⟩ := nm (a8.map eString)
 have f3 := rlen_map hA b8
 obtain ⟨c3, c4⟩ := nm (b2.map eWrite)
 have f8 := rlen_map hA c4
 obtain ⟨a5, c9⟩ := nm (a3.map eSeg)
 have g6 := rlen_map hA c9
 refine real_args (args' := [.agg [.sl 1 b3, .sl 2 c3, .ii e2, .sl 4 a5, .ii d4, .ii d5, .ii e0, .ii c7]]) (by subst b8 c4 c9; rfl) ?_
 have e4 : ∀ q ∈ zsDisk (⟨a8, b2⟩ : GDisk), q ≤ 1048576 := fun q hq => hz q (by simp only [zsLog, List.mem_append]; simp only [hq, true_or, or_true])
 have d6 : ∀ q ∈ zsStringS a8, q ≤ 1048576 := fun q hq => e4 q (by simp only [zsDisk, List.mem_append]; simp only [hq, true_or, or_true])
 have f7 : List.length a8 ≤ 1048576 := d6 _ (by simp [zsStringS])
 have d9 : ∀ q ∈ zsWriteS b2, q ≤ 1048576 := fun q hq => e4 q (by simp only [zsDisk, List.mem_append]; simp only [hq, true_or, or_true])
 have g1 : List.length b2 ≤ 1048576 := d9 _ (by simp [zsWriteS])
 have f9 : ∀ q ∈ zsSegS a3, q ≤ 1048576 := fun q hq => hz q (by simp only [zsLog, List.mem_append]; simp only [hq, true_or, or_true])
 have i1 : List.length a3 ≤ 1048576 := f9 _ (by simp [zsSegS])
 have hil : (itemsL a3).length ≤ 1048576 := hil
 refine real tyOk Tryz.func89 (by kernel_rfl) (afun_of rfl ?_)
 refine gx hA 2 ?_
 refine gx hA 2 ?_
 refine gs (gx hA 1 ?_)
 refine go_block ?_
 refine go_loopE (fun σ m => ∃ (i : Nat) (n : Int) (R : RR), σ = (S89_1 n b3 c3 e2 a5 d4 d5 e0 c7 R) ∧ (n = (i : Int) ∧ i ≤ List.length a3 ∧ R = List.map eoItem (itemsL (a3.take i))) ∧ m = List.length a3 - i) _ [.up 5, .up 1] [1, 3, 4] [1, 5] (S89_1 0 b3 c3 e2 a5 d4 d5 e0 c7 ([])) rfl (by cbv) ⟨0, 0, [], rfl, ?_, rfl⟩ (fun σ m hI => ?_)
 ·
  exact ⟨rfl, Nat.zero_le _, rfl⟩
 obtain ⟨i, n, R, rfl, ⟨hn, hi, hR⟩, rfl⟩ := hI
 refine gs (gx hA 5 ?_)
 refine go_cond rfl (fun c1 => ?_) (fun c1 => ?_)
 ·
  have ec1 : n < (A.rlen a5) := lss_t hA c1
  refine gk (gs ?_)
  refine go_block ?_
  refine gr (rn hA 4 ?_)
  have g8 : (0 : Int) ≤ n := by
   omega
  have g9 : (Int.toNat n) < List.length a3 := by
   omega
  obtain ⟨x2, hx2⟩ : ∃ x, (a3)[(Int.toNat n)]? = some x := ⟨_, List.getElem?_eq_getElem g9⟩
  have i3 := List.mem_of_getElem? hx2
  obtain ⟨f6, f0, f2, c6⟩ := x2
  obtain ⟨c2, b5⟩ := nm (c6.map eItem)
  have g4 := rlen_map hA b5
  have i0 : a5[(Int.toNat n)]? = some [.ii f6, .ii f0, .ii f2, .sl 9 c2] := by
   subst b5; exact map_at eSeg c9 hx2
  have e1 := hx2
  rw [hn] at e1
  have e1 : (a3)[i]? = some (⟨f6, f0, f2, c6⟩ : GSeg) := e1
  refine ops_step rfl rfl (idx_sl rfl rfl rfl rfl rfl g8 rfl i0) ?_
  refine rn hA 2 ?_
  obtain ⟨r3, hr3⟩ := nm (R ++ c2 : RR)
  have er3 : r3 = List.map eoItem ((itemsL (a3.take i)) ++ c6) := by rw [hr3]; exact app_eq hR b5
  have lr3 := rlen_map hA er3
  refine ops_step rfl rfl (app_own rfl rfl rfl rfl rfl rfl rfl rfl hr3 (by cbv) (by cbv) (by cbv) rfl (by
   show (List.length R + List.length c2) * _ ≤ _
   have h1 := itemsL_le a3 (i + 1)
   rw [itemsL_at e1, List.length_append] at h1
   have h1 : (itemsL (a3.take i)).length + List.length c6 ≤ (itemsL a3).length := h1
   show (List.length R + List.length c2) * 96 ≤ _
   rw [hR, b5, List.length_map, List.length_map]; omega) (by decide) (by decide)) ?_
  refine rz hA 1 ?_
  refine gy hA 3 ?_
  refine ⟨(S89_1 (A.num .add .i64 n 1) b3 c3 e2 a5 d4 d5 e0 c7 r3), List.length a3 - (i + 1), ?_, by cbv, i + 1, (A.num .add .i64 n 1), r3, rfl, ?_, rfl⟩
  ·
   omega
  refine ⟨by rw [add_i64 hA (by omega) (by omega)]; omega, by omega, ?_⟩
  rw [itemsL_at e1]
  exact er3
 have ec1 : (A.rlen a5) ≤ n := lss_f hA c1
 refine go_exit ⟨fun _ => ?_, fun h => absurd rfl h⟩
 refine gx hA 2 ?_
 refine go_ret ⟨_, by cbv, ?_⟩
 show _ = (PV.ow 9 R)
 refine congrArg (PV.ow 9) ?_
 rw [hR, List.take_of_length_le (by omega)]
theorem r_impl_StateNow (A : Alg) (hA : A = std) (x : GStore) (hz : ∀ q ∈ zsStore x, q ≤ 1048576) (hil : (itemsL x.Log.Used).length ≤ 1048576) : Real Tryz.prog 51 [.agg (eStore x)] (.agg (eoState (stateS (itemsL x.Log.Used)))) := by
 obtain ⟨⟨⟨a0, a1⟩, b9, a2, b0, a9, b4, a7⟩, d8⟩ := x
 obtain ⟨b1, a4⟩ := nm (a0.map eString)
 have e3 := rlen_map hA a4
 obtain ⟨b6, a6⟩ := nm (a1.map eWrite)
 have e7 := rlen_map hA a6
 obtain ⟨d0, b7⟩ := nm (a2.map eSeg)
 have g0 := rlen_map hA b7
 obtain ⟨e9, d7⟩ := nm (d8.map eInt)
 have g5 := rlen_map hA d7
 refine real_args (args' := [.agg [.sl 1 b1, .sl 2 b6, .ii b9, .sl 4 d0, .ii b0, .ii a9, .ii b4, .ii a7, .sl 1 e9]]) (by subst a4 a6 b7 d7; rfl) ?_
 have f1 : ∀ q ∈ zsLog (⟨⟨a0, a1⟩, b9, a2, b0, a9, b4, a7⟩ : GLog), q ≤ 1048576 := fun q hq => hz q (by simp only [zsStore, List.mem_append]; simp only [hq, true_or, or_true])
 have d3 : ∀ q ∈ zsDisk (⟨a0, a1⟩ : GDisk), q ≤ 1048576 := fun q hq => f1 q (by simp only [zsLog, List.mem_append]; simp only [hq, true_or, or_true])
 have c8 : ∀ q ∈ zsStringS a0, q ≤ 1048576 := fun q hq => d3 q (by simp only [zsDisk, List.mem_append]; simp only [hq, true_or, or_true])
 have e8 : List.length a0 ≤ 1048576 := c8 _ (by simp [zsStringS])
 have d1 : ∀ q ∈ zsWriteS a1, q ≤ 1048576 := fun q hq => d3 q (by simp only [zsDisk, List.mem_append]; simp only [hq, true_or, or_true])
 have f4 : List.length a1 ≤ 1048576 := d1 _ (by simp [zsWriteS])
 have d2 : ∀ q ∈ zsSegS a2, q ≤ 1048576 := fun q hq => f1 q (by simp only [zsLog, List.mem_append]; simp only [hq, true_or, or_true])
 have g3 : List.length a2 ≤ 1048576 := d2 _ (by simp [zsSegS])
 have f5 : ∀ q ∈ zsIntS d8, q ≤ 1048576 := fun q hq => hz q (by simp only [zsStore, List.mem_append]; simp only [hq, true_or, or_true])
 have g7 : List.length d8 ≤ 1048576 := f5 _ (by simp [zsIntS])
 have hil : (itemsL a2).length ≤ 1048576 := hil
 have hzs := zs_itemsL d2 hil
 refine real tyOk Tryz.func51 (by kernel_rfl) (afun_of rfl ?_)
 refine gx hA 2 ?_
 refine gs (gr (rn hA 2 ?_))
 obtain ⟨e6, e5, hc2⟩ : ∃ (e6 : RR), e6 = List.map eoItem (itemsL a2) ∧ Real Tryz.prog 94 [.agg [.sl 1 b1, .sl 2 b6, .ii b9, .sl 4 d0, .ii b0, .ii a9, .ii b4, .ii a7]] (.ow 9 e6) := ⟨_, rfl, by subst a4 a6 b7; exact r_impl_ItemsOf A hA (⟨⟨a0, a1⟩, b9, a2, b0, a9, b4, a7⟩ : GLog) (by assumption) hil⟩
 have i2 := rlen_map hA e5
 refine ops_callV rfl rfl (by cbv) (by cbv) hc2 (.inr rfl) (by cbv) ?_
 obtain ⟨c0, c5, hc4⟩ : ∃ (c0 : RR), c0 = List.map eoBox ((stateS (itemsL a2)).Boxes) ∧ Real Tryz.prog 93 [.sl 9 (eraseR e6)] (.agg [.ow 5 c0]) := ⟨_, rfl, by subst e5; simp only [erR_Item]; exact r_impl_StateOf A hA (itemsL a2) hzs⟩
 have g2 := rlen_map hA c5
 refine ops_callV rfl rfl (by cbv) (by cbv) hc4 (.inl (by simp only [fresh, freshL, c5, frR_Box, and_self])) (by cbv) ?_
 refine rz hA 1 ?_
 refine go_ret ⟨_, by cbv, ?_⟩
 show _ = (PV.agg [.ow 5 c0])
 simp only [e5, c5]
 rfl
theorem r_spec_StateNow (A : Alg) (hA : A = std) (x : GStore) (hz : ∀ q ∈ zsStore x, q ≤ 1048576) (hil : (itemsL x.Log.Used).length ≤ 1048576) : Real Tryz.prog 49 [.agg (eStore x)] (.agg (eoState (stateS (itemsL x.Log.Used)))) := by
 obtain ⟨⟨⟨a0, a1⟩, b9, a2, b0, a9, b4, a7⟩, d8⟩ := x
 obtain ⟨b1, a4⟩ := nm (a0.map eString)
 have e3 := rlen_map hA a4
 obtain ⟨b6, a6⟩ := nm (a1.map eWrite)
 have e7 := rlen_map hA a6
 obtain ⟨d0, b7⟩ := nm (a2.map eSeg)
 have g0 := rlen_map hA b7
 obtain ⟨e9, d7⟩ := nm (d8.map eInt)
 have g5 := rlen_map hA d7
 refine real_args (args' := [.agg [.sl 1 b1, .sl 2 b6, .ii b9, .sl 4 d0, .ii b0, .ii a9, .ii b4, .ii a7, .sl 1 e9]]) (by subst a4 a6 b7 d7; rfl) ?_
 have f1 : ∀ q ∈ zsLog (⟨⟨a0, a1⟩, b9, a2, b0, a9, b4, a7⟩ : GLog), q ≤ 1048576 := fun q hq => hz q (by simp only [zsStore, List.mem_append]; simp only [hq, true_or, or_true])
 have d3 : ∀ q ∈ zsDisk (⟨a0, a1⟩ : GDisk), q ≤ 1048576 := fun q hq => f1 q (by simp only [zsLog, List.mem_append]; simp only [hq, true_or, or_true])
 have c8 : ∀ q ∈ zsStringS a0, q ≤ 1048576 := fun q hq => d3 q (by simp only [zsDisk, List.mem_append]; simp only [hq, true_or, or_true])
 have e8 : List.length a0 ≤ 1048576 := c8 _ (by simp [zsStringS])
 have d1 : ∀ q ∈ zsWriteS a1, q ≤ 1048576 := fun q hq => d3 q (by simp only [zsDisk, List.mem_append]; simp only [hq, true_or, or_true])
 have f4 : List.length a1 ≤ 1048576 := d1 _ (by simp [zsWriteS])
 have d2 : ∀ q ∈ zsSegS a2, q ≤ 1048576 := fun q hq => f1 q (by simp only [zsLog, List.mem_append]; simp only [hq, true_or, or_true])
 have g3 : List.length a2 ≤ 1048576 := d2 _ (by simp [zsSegS])
 have f5 : ∀ q ∈ zsIntS d8, q ≤ 1048576 := fun q hq => hz q (by simp only [zsStore, List.mem_append]; simp only [hq, true_or, or_true])
 have g7 : List.length d8 ≤ 1048576 := f5 _ (by simp [zsIntS])
 have hil : (itemsL a2).length ≤ 1048576 := hil
 have hzs := zs_itemsL d2 hil
 refine real tyOk Tryz.func49 (by kernel_rfl) (afun_of rfl ?_)
 refine gx hA 2 ?_
 refine gs (gr (rn hA 2 ?_))
 obtain ⟨e6, e5, hc2⟩ : ∃ (e6 : RR), e6 = List.map eoItem (itemsL a2) ∧ Real Tryz.prog 89 [.agg [.sl 1 b1, .sl 2 b6, .ii b9, .sl 4 d0, .ii b0, .ii a9, .ii b4, .ii a7]] (.ow 9 e6) := ⟨_, rfl, by subst a4 a6 b7; exact r_spec_ItemsOf A hA (⟨⟨a0, a1⟩, b9, a2, b0, a9, b4, a7⟩ : GLog) (by assumption) hil⟩
 have i2 := rlen_map hA e5
 refine ops_callV rfl rfl (by cbv) (by cbv) hc2 (.inr rfl) (by cbv) ?_
 obtain ⟨c0, c5, hc4⟩ : ∃ (c0 : RR), c0 = List.map eoBox ((stateS (itemsL a2)).Boxes) ∧ Real Tryz.prog 88 [.sl 9 (eraseR e6)] (.agg [.ow 5 c0]) := ⟨_, rfl, by subst e5; simp only [erR_Item]; exact r_spec_StateOf A hA (itemsL a2) hzs⟩
 have g2 := rlen_map hA c5
 refine ops_callV rfl rfl (by cbv) (by cbv) hc4 (.inl (by simp only [fresh, freshL, c5, frR_Box, and_self])) (by cbv) ?_
 refine rz hA 1 ?_
 refine go_ret ⟨_, by cbv, ?_⟩
 show _ = (PV.agg [.ow 5 c0])
 simp only [e5, c5]
 rfl
end Go.Av
namespace Go.Av
open Go Go.Proofs
set_option maxRecDepth 100000
set_option maxHeartbeats 4000000
set_option linter.unusedVariables false
set_option linter.unusedSimpArgs false
def plainOf (x : GServer) : GPlain := ⟨stateS (itemsL x.Store.Log.Used), x.Store.Log.NextValid, x.Sessions⟩
theorem r_impl_PlainOf (A : Alg) (hA : A = std) (x : GServer) (hz : ∀ q ∈ zsServer x, q ≤ 1048576) (hil : (itemsL x.Store.Log.Used).length ≤ 1048576) : Real Tryz.prog 22 [.agg (eServer x)] (.agg (eoPlain (plainOf x))) := by
 obtain ⟨⟨⟨⟨b2, b7⟩, a6, c0, a3, a4, a5, a0⟩, d8⟩, d5⟩ := x
 obtain ⟨a1, c8⟩ := nm (b2.map eString)
 have g9 := rlen_map hA c8
 obtain ⟨a2, d0⟩ := nm (b7.map eWrite)
 have i4 := rlen_map hA d0
 obtain ⟨a7, d9⟩ := nm (c0.map eSeg)
 have j4 := rlen_map hA d9
 obtain ⟨a9, e3⟩ := nm (d8.map eInt)
 have j9 := rlen_map hA e3
 obtain ⟨a8, e7⟩ := nm (d5.map eSession)
 have k1 := rlen_map hA e7
 refine real_args (args' := [.agg [.sl 1 a1, .sl 2 a2, .ii a6, .sl 4 a7, .ii a3, .ii a4, .ii a5, .ii a0, .sl 1 a9, .sl 17 a8]]) (by subst c8 d0 d9 e3 e7; rfl) ?_
 have i6 : ∀ q ∈ zsStore (⟨⟨⟨b2, b7⟩, a6, c0, a3, a4, a5, a0⟩, d8⟩ : GStore), q ≤ 1048576 := fun q hq => hz q (by simp only [zsServer, List.mem_append]; simp only [hq, true_or, or_true])
 have f8 : ∀ q ∈ zsLog (⟨⟨b2, b7⟩, a6, c0, a3, a4, a5, a0⟩ : GLog), q ≤ 1048576 := fun q hq => i6 q (by simp only [zsStore, List.mem_append]; simp only [hq, true_or, or_true])
 have e8 : ∀ q ∈ zsDisk (⟨b2, b7⟩ : GDisk), q ≤ 1048576 := fun q hq => f8 q (by simp only [zsLog, List.mem_append]; simp only [hq, true_or, or_true])
 have e9 : ∀ q ∈ zsStringS b2, q ≤ 1048576 := fun q hq => e8 q (by simp only [zsDisk, List.mem_append]; simp only [hq, true_or, or_true])
 have i3 : List.length b2 ≤ 1048576 := e9 _ (by simp [zsStringS])
 have f1 : ∀ q ∈ zsWriteS b7, q ≤ 1048576 := fun q hq => e8 q (by simp only [zsDisk, List.mem_append]; simp only [hq, true_or, or_true])
 have i7 : List.length b7 ≤ 1048576 := f1 _ (by simp [zsWriteS])
 have g1 : ∀ q ∈ zsSegS c0, q ≤ 1048576 := fun q hq => f8 q (by simp only [zsLog, List.mem_append]; simp only [hq, true_or, or_true])
 have j6 : List.length c0 ≤ 1048576 := g1 _ (by simp [zsSegS])
 have g6 : ∀ q ∈ zsIntS d8, q ≤ 1048576 := fun q hq => i6 q (by simp only [zsStore, List.mem_append]; simp only [hq, true_or, or_true])
 have k0 : List.length d8 ≤ 1048576 := g6 _ (by simp [zsIntS])
 have g8 : ∀ q ∈ zsSessionS d5, q ≤ 1048576 := fun q hq => hz q (by simp only [zsServer, List.mem_append]; simp only [hq, true_or, or_true])
 have k2 : List.length d5 ≤ 1048576 := g8 _ (by simp [zsSessionS])
 have hil : (itemsL c0).length ≤ 1048576 := hil
 refine real tyOk Tryz.func22 (by kernel_rfl) (afun_of rfl ?_)
 refine gx hA 2 ?_
 refine gs ?_
 obtain ⟨f4, j8, hc2⟩ : ∃ (f4 : RR), f4 = List.map eoBox ((stateS (itemsL c0)).Boxes) ∧ Real Tryz.prog 51 [.agg [.sl 1 a1, .sl 2 a2, .ii a6, .sl 4 a7, .ii a3, .ii a4, .ii a5, .ii a0, .sl 1 a9]] (.agg [.ow 5 f4]) := ⟨_, rfl, by subst c8 d0 d9 e3; exact r_impl_StateNow A hA (⟨⟨⟨b2, b7⟩, a6, c0, a3, a4, a5, a0⟩, d8⟩ : GStore) (by assumption) hil⟩
 have m1 := rlen_map hA j8
 obtain ⟨j0, k6, hc4⟩ : ∃ (j0 : RR), j0 = List.map eoSession d5 ∧ Real Tryz.prog 52 [.sl 17 a8] (.ow 17 j0) := ⟨_, rfl, by subst e7; exact r_impl_cloneSessions A hA d5 (by assumption)⟩
 have m8 := rlen_map hA k6
 refine go_drawE [0, 1, 2, 3, 4, 5, 6, 7, 8, 9, 10, 11] (by cbv) rfl rfl ({ sl := [.agg [.sl 1 a1, .sl 2 a2, .ii a6, .sl 4 a7, .ii a3, .ii a4, .ii a5, .ii a0, .sl 1 a9, .sl 17 a8], .pt 1 0 0, .pt 2 0 0, .pt 1 0 0, .agg [.sl 1 a1, .sl 2 a2, .ii a6, .sl 4 a7, .ii a3, .ii a4, .ii a5, .ii a0, .sl 1 a9], .agg [.own 5], .pt 1 0 0, .pt 1 0 0, .pt 1 0 7, .ii a0, .pt 1 0 9, .sl 17 a8, .own 12, .agg [.own 5, .ii a0, .own 12]], bl := [(1, ⟨.var, 10, [[.sl 1 a1, .sl 2 a2, .ii a6, .sl 4 a7, .ii a3, .ii a4, .ii a5, .ii a0, .sl 1 a9, .sl 17 a8]]⟩), (2, ⟨.var, 3, [[.own 5, .ii a0, .own 12]]⟩), (5, ⟨.arr, 5, f4⟩), (12, ⟨.arr, 17, j0⟩)] } : St) (fun dR dK dhR dhF => ?_) ?_
 ·
  have l2 : ∀ (dn : Nat), cntF [true, true, true, true, true, true, true, true, true, true, true, true] = dn → dwp T ⟨Real Tryz.prog, RealM Tryz.prog, RealC Tryz.prog⟩ dR dK dn [true, true, true, true, true, true, true, true, true, true, true, true] ({ sl := [.agg [.sl 1 a1, .sl 2 a2, .ii a6, .sl 4 a7, .ii a3, .ii a4, .ii a5, .ii a0, .sl 1 a9, .sl 17 a8], .pt 1 0 0, .pt 2 0 0, .pt 1 0 0, .agg [.sl 1 a1, .sl 2 a2, .ii a6, .sl 4 a7, .ii a3, .ii a4, .ii a5, .ii a0, .sl 1 a9], .agg [.own 5], .pt 1 0 0, .pt 1 0 0, .pt 1 0 7, .ii a0, .pt 1 0 9, .sl 17 a8, .own 12, .agg [.own 5, .ii a0, .own 12]], bl := [(1, ⟨.var, 10, [[.sl 1 a1, .sl 2 a2, .ii a6, .sl 4 a7, .ii a3, .ii a4, .ii a5, .ii a0, .sl 1 a9, .sl 17 a8]]⟩), (2, ⟨.var, 3, [[.own 5, .ii a0, .own 12]]⟩), (5, ⟨.arr, 5, f4⟩), (12, ⟨.arr, 17, j0⟩)] } : St) := by
   intro dn
   induction dn with
   | zero =>
    intro  dhn
    exact dwp_last dhF
   | succ dn ih =>
    intro  dhn
    subst dhR
    refine dwp_next (is := [0, 1, 2, 3, 4, 5, 6, 7, 8, 9, 10, 11]) rfl ?_
    refine allRdy_none rfl ?_
    refine allRdy_none rfl ?_
    refine allRdy_none rfl ?_
    refine allRdy_none rfl ?_
    refine allRdy_none rfl ?_
    refine allRdy_none rfl ?_
    refine allRdy_none rfl ?_
    refine allRdy_none rfl ?_
    refine allRdy_none rfl ?_
    refine allRdy_none rfl ?_
    refine allRdy_none rfl ?_
    refine allRdy_none rfl ?_
    exact trivial
  have m2 : ∀ (dn : Nat) {dB3 dB4 dB5 dB6 g0 : Bool} {dQ3 dQ4 dQ5 dQ6 j1 : PV}, (dB3 = true → dQ3 = .pt 1 0 0) → (dB4 = true → dQ4 = .pt 1 0 0) → (dB5 = true → dQ5 = .pt 1 0 7) → (dB6 = true → dQ6 = .ii a0) → (g0 = true → j1 = .agg [.own 5, .ii a0, .own 12]) → (dB4 = true → dB3 = true) → (dB5 = true → dB4 = true) → (dB6 = true → dB5 = true) → (g0 = true → dB6 = true) → cntF [true, true, true, dB3, dB4, dB5, dB6, true, true, true, g0, false] = dn → dwp T ⟨Real Tryz.prog, RealM Tryz.prog, RealC Tryz.prog⟩ dR dK dn [true, true, true, dB3, dB4, dB5, dB6, true, true, true, g0, false] ({ sl := [.agg [.sl 1 a1, .sl 2 a2, .ii a6, .sl 4 a7, .ii a3, .ii a4, .ii a5, .ii a0, .sl 1 a9, .sl 17 a8], .pt 1 0 0, .pt 2 0 0, .pt 1 0 0, .agg [.sl 1 a1, .sl 2 a2, .ii a6, .sl 4 a7, .ii a3, .ii a4, .ii a5, .ii a0, .sl 1 a9], .agg [.own 5], dQ3, dQ4, dQ5, dQ6, .pt 1 0 9, .sl 17 a8, .own 12, j1], bl := [(1, ⟨.var, 10, [[.sl 1 a1, .sl 2 a2, .ii a6, .sl 4 a7, .ii a3, .ii a4, .ii a5, .ii a0, .sl 1 a9, .sl 17 a8]]⟩), (2, ⟨.var, 3, [[.zc, .ii 0, .zc]]⟩), (5, ⟨.arr, 5, f4⟩), (12, ⟨.arr, 17, j0⟩)] } : St) := by
   intro dn
   induction dn with
   | zero =>
    intro dB3 dB4 dB5 dB6 g0 dQ3 dQ4 dQ5 dQ6 j1 dh3 dh4 dh5 dh6 i9 c4 c2 c1 j5 dhn
    exact absurd (show false = true from cntF_zero  _ dhn 11 (by show 11 < 12; decide)) (by decide)
   | succ dn ih =>
    intro dB3 dB4 dB5 dB6 g0 dQ3 dQ4 dQ5 dQ6 j1 dh3 dh4 dh5 dh6 i9 c4 c2 c1 j5 dhn
    subst dhR
    refine dwp_next (is := [0, 1, 2, 3, 4, 5, 6, 7, 8, 9, 10, 11]) rfl ?_
    refine allRdy_none rfl ?_
    refine allRdy_none rfl ?_
    refine allRdy_none rfl ?_
    refine allRdy_q rfl rfl (fun h0 h1 => ?_) ?_
    ·
     cases (show dB3 = false from h0)
     refine rn hA 1 ?_
     refine ow_ ?_
     exact ih (fun _ => rfl) dh4 dh5 dh6 i9 (fun _ => rfl) c2 c1 j5 (cnt_dec h0 (by show 3 < 12; decide) dhn)
    refine allRdy_q rfl rfl (fun h0 h1 => ?_) ?_
    ·
     cases (show dB4 = false from h0)
     obtain rfl : dB3 = true := h1.1
     obtain rfl := dh3 rfl
     refine rn hA 1 ?_
     refine ow_ ?_
     exact ih (fun _ => rfl) (fun _ => rfl) dh5 dh6 i9 (fun _ => rfl) (fun _ => rfl) c1 j5 (cnt_dec h0 (by show 4 < 12; decide) dhn)
    refine allRdy_q rfl rfl (fun h0 h1 => ?_) ?_
    ·
     cases (show dB5 = false from h0)
     obtain rfl : dB4 = true := h1.1
     obtain rfl := dh4 rfl
     obtain rfl : dB3 = true := c4 rfl
     obtain rfl := dh3 rfl
     refine rn hA 1 ?_
     refine ow_ ?_
     exact ih (fun _ => rfl) (fun _ => rfl) (fun _ => rfl) dh6 i9 (fun _ => rfl) (fun _ => rfl) (fun _ => rfl) j5 (cnt_dec h0 (by show 5 < 12; decide) dhn)
    refine allRdy_q rfl rfl (fun h0 h1 => ?_) ?_
    ·
     cases (show dB6 = false from h0)
     obtain rfl : dB5 = true := h1.1
     obtain rfl := dh5 rfl
     obtain rfl : dB4 = true := c2 rfl
     obtain rfl := dh4 rfl
     obtain rfl : dB3 = true := c4 rfl
     obtain rfl := dh3 rfl
     refine rn hA 1 ?_
     refine ow_ ?_
     exact ih (fun _ => rfl) (fun _ => rfl) (fun _ => rfl) (fun _ => rfl) i9 (fun _ => rfl) (fun _ => rfl) (fun _ => rfl) (fun _ => rfl) (cnt_dec h0 (by show 6 < 12; decide) dhn)
    refine allRdy_none rfl ?_
    refine allRdy_none rfl ?_
    refine allRdy_none rfl ?_
    refine allRdy_q rfl rfl (fun h0 h1 => ?_) ?_
    ·
     cases (show g0 = false from h0)
     obtain rfl : dB6 = true := h1.2.1
     obtain rfl := dh6 rfl
     obtain rfl : dB5 = true := c1 rfl
     obtain rfl := dh5 rfl
     obtain rfl : dB4 = true := c2 rfl
     obtain rfl := dh4 rfl
     obtain rfl : dB3 = true := c4 rfl
     obtain rfl := dh3 rfl
     refine rn hA 1 ?_
     refine ow_ ?_
     exact ih (fun _ => rfl) (fun _ => rfl) (fun _ => rfl) (fun _ => rfl) (fun _ => rfl) (fun _ => rfl) (fun _ => rfl) (fun _ => rfl) (fun _ => rfl) (cnt_dec h0 (by show 10 < 12; decide) dhn)
    refine allRdy_q rfl rfl (fun h0 h1 => ?_) ?_
    ·
     obtain rfl : g0 = true := h1.1
     obtain rfl := i9 rfl
     obtain rfl : dB6 = true := j5 rfl
     obtain rfl := dh6 rfl
     obtain rfl : dB5 = true := c1 rfl
     obtain rfl := dh5 rfl
     obtain rfl : dB4 = true := c2 rfl
     obtain rfl := dh4 rfl
     obtain rfl : dB3 = true := c4 rfl
     obtain rfl := dh3 rfl
     refine rn hA 1 ?_
     refine ow_ ?_
     exact l2 dn (cnt_dec h0 (by show 11 < 12; decide) dhn)
    exact trivial
  have H_2 : ∀ (dn : Nat) {dB3 dB4 dB5 dB6 dB7 dB8 : Bool} {dQ3 dQ4 dQ5 dQ6 dQ7 dQ8 : PV}, (dB3 = true → dQ3 = .pt 1 0 0) → (dB4 = true → dQ4 = .pt 1 0 0) → (dB5 = true → dQ5 = .pt 1 0 7) → (dB6 = true → dQ6 = .ii a0) → (dB7 = true → dQ7 = .pt 1 0 9) → (dB8 = true → dQ8 = .sl 17 a8) → (dB4 = true → dB3 = true) → (dB5 = true → dB4 = true) → (dB6 = true → dB5 = true) → (dB8 = true → dB7 = true) → cntF [true, true, true, dB3, dB4, dB5, dB6, dB7, dB8, false, false, false] = dn → dwp T ⟨Real Tryz.prog, RealM Tryz.prog, RealC Tryz.prog⟩ dR dK dn [true, true, true, dB3, dB4, dB5, dB6, dB7, dB8, false, false, false] ({ sl := [.agg [.sl 1 a1, .sl 2 a2, .ii a6, .sl 4 a7, .ii a3, .ii a4, .ii a5, .ii a0, .sl 1 a9, .sl 17 a8], .pt 1 0 0, .pt 2 0 0, .pt 1 0 0, .agg [.sl 1 a1, .sl 2 a2, .ii a6, .sl 4 a7, .ii a3, .ii a4, .ii a5, .ii a0, .sl 1 a9], .agg [.own 5], dQ3, dQ4, dQ5, dQ6, dQ7, dQ8, .bad, .bad], bl := [(1, ⟨.var, 10, [[.sl 1 a1, .sl 2 a2, .ii a6, .sl 4 a7, .ii a3, .ii a4, .ii a5, .ii a0, .sl 1 a9, .sl 17 a8]]⟩), (2, ⟨.var, 3, [[.zc, .ii 0, .zc]]⟩), (5, ⟨.arr, 5, f4⟩)] } : St) := by
   intro dn
   induction dn with
   | zero =>
    intro dB3 dB4 dB5 dB6 dB7 dB8 dQ3 dQ4 dQ5 dQ6 dQ7 dQ8 dh3 dh4 dh5 dh6 dh7 dh8 c4 c2 c1 f6 dhn
    exact absurd (show false = true from cntF_zero  _ dhn 9 (by show 9 < 12; decide)) (by decide)
   | succ dn ih =>
    intro dB3 dB4 dB5 dB6 dB7 dB8 dQ3 dQ4 dQ5 dQ6 dQ7 dQ8 dh3 dh4 dh5 dh6 dh7 dh8 c4 c2 c1 f6 dhn
    subst dhR
    refine dwp_next (is := [0, 1, 2, 3, 4, 5, 6, 7, 8, 9, 10, 11]) rfl ?_
    refine allRdy_none rfl ?_
    refine allRdy_none rfl ?_
    refine allRdy_none rfl ?_
    refine allRdy_q rfl rfl (fun h0 h1 => ?_) ?_
    ·
     cases (show dB3 = false from h0)
     refine rn hA 1 ?_
     refine ow_ ?_
     exact ih (fun _ => rfl) dh4 dh5 dh6 dh7 dh8 (fun _ => rfl) c2 c1 f6 (cnt_dec h0 (by show 3 < 12; decide) dhn)
    refine allRdy_q rfl rfl (fun h0 h1 => ?_) ?_
    ·
     cases (show dB4 = false from h0)
     obtain rfl : dB3 = true := h1.1
     obtain rfl := dh3 rfl
     refine rn hA 1 ?_
     refine ow_ ?_
     exact ih (fun _ => rfl) (fun _ => rfl) dh5 dh6 dh7 dh8 (fun _ => rfl) (fun _ => rfl) c1 f6 (cnt_dec h0 (by show 4 < 12; decide) dhn)
    refine allRdy_q rfl rfl (fun h0 h1 => ?_) ?_
    ·
     cases (show dB5 = false from h0)
     obtain rfl : dB4 = true := h1.1
     obtain rfl := dh4 rfl
     obtain rfl : dB3 = true := c4 rfl
     obtain rfl := dh3 rfl
     refine rn hA 1 ?_
     refine ow_ ?_
     exact ih (fun _ => rfl) (fun _ => rfl) (fun _ => rfl) dh6 dh7 dh8 (fun _ => rfl) (fun _ => rfl) (fun _ => rfl) f6 (cnt_dec h0 (by show 5 < 12; decide) dhn)
    refine allRdy_q rfl rfl (fun h0 h1 => ?_) ?_
    ·
     cases (show dB6 = false from h0)
     obtain rfl : dB5 = true := h1.1
     obtain rfl := dh5 rfl
     obtain rfl : dB4 = true := c2 rfl
     obtain rfl := dh4 rfl
     obtain rfl : dB3 = true := c4 rfl
     obtain rfl := dh3 rfl
     refine rn hA 1 ?_
     refine ow_ ?_
     exact ih (fun _ => rfl) (fun _ => rfl) (fun _ => rfl) (fun _ => rfl) dh7 dh8 (fun _ => rfl) (fun _ => rfl) (fun _ => rfl) f6 (cnt_dec h0 (by show 6 < 12; decide) dhn)
    refine allRdy_q rfl rfl (fun h0 h1 => ?_) ?_
    ·
     cases (show dB7 = false from h0)
     refine rn hA 1 ?_
     refine ow_ ?_
     exact ih dh3 dh4 dh5 dh6 (fun _ => rfl) dh8 c4 c2 c1 (fun _ => rfl) (cnt_dec h0 (by show 7 < 12; decide) dhn)
    refine allRdy_q rfl rfl (fun h0 h1 => ?_) ?_
    ·
     cases (show dB8 = false from h0)
     obtain rfl : dB7 = true := h1.1
     obtain rfl := dh7 rfl
     refine rn hA 1 ?_
     refine ow_ ?_
     exact ih dh3 dh4 dh5 dh6 (fun _ => rfl) (fun _ => rfl) c4 c2 c1 (fun _ => rfl) (cnt_dec h0 (by show 8 < 12; decide) dhn)
    refine allRdy_q rfl rfl (fun h0 h1 => ?_) ?_
    ·
     obtain rfl : dB8 = true := h1.1
     obtain rfl := dh8 rfl
     obtain rfl : dB7 = true := f6 rfl
     obtain rfl := dh7 rfl
     refine ops_callV rfl rfl (by cbv) (by cbv) hc4 (.inr rfl) (by cbv) ?_
     refine ops_done (dwp_to [.up 12, .up 5, .up 2, .up 1] (by cbv) rfl ?_)
     exact m2 dn dh3 dh4 dh5 dh6 (fun h => absurd h (by decide)) c4 c2 c1 (fun h => absurd h (by decide)) (cnt_dec h0 (by show 9 < 12; decide) dhn)
    refine allRdy_q rfl rfl (fun _ h1 => absurd (show false = true from h1.2.2.1) (by decide)) ?_
    refine allRdy_q rfl rfl (fun _ h1 => absurd (show false = true from h1.1) (by decide)) ?_
    exact trivial
  have H_ : ∀ (dn : Nat) {dB0 dB1 dB3 dB4 dB5 dB6 dB7 dB8 : Bool} {dQ0 dQ1 dQ3 dQ4 dQ5 dQ6 dQ7 dQ8 : PV}, (dB0 = true → dQ0 = .pt 1 0 0) → (dB1 = true → dQ1 = .agg [.sl 1 a1, .sl 2 a2, .ii a6, .sl 4 a7, .ii a3, .ii a4, .ii a5, .ii a0, .sl 1 a9]) → (dB3 = true → dQ3 = .pt 1 0 0) → (dB4 = true → dQ4 = .pt 1 0 0) → (dB5 = true → dQ5 = .pt 1 0 7) → (dB6 = true → dQ6 = .ii a0) → (dB7 = true → dQ7 = .pt 1 0 9) → (dB8 = true → dQ8 = .sl 17 a8) → (dB1 = true → dB0 = true) → (dB4 = true → dB3 = true) → (dB5 = true → dB4 = true) → (dB6 = true → dB5 = true) → (dB8 = true → dB7 = true) → cntF [dB0, dB1, false, dB3, dB4, dB5, dB6, dB7, dB8, false, false, false] = dn → dwp T ⟨Real Tryz.prog, RealM Tryz.prog, RealC Tryz.prog⟩ dR dK dn [dB0, dB1, false, dB3, dB4, dB5, dB6, dB7, dB8, false, false, false] ({ sl := [.agg [.sl 1 a1, .sl 2 a2, .ii a6, .sl 4 a7, .ii a3, .ii a4, .ii a5, .ii a0, .sl 1 a9, .sl 17 a8], .pt 1 0 0, .pt 2 0 0, dQ0, dQ1, .bad, dQ3, dQ4, dQ5, dQ6, dQ7, dQ8, .bad, .bad], bl := [(1, ⟨.var, 10, [[.sl 1 a1, .sl 2 a2, .ii a6, .sl 4 a7, .ii a3, .ii a4, .ii a5, .ii a0, .sl 1 a9, .sl 17 a8]]⟩), (2, ⟨.var, 3, [[.zc, .ii 0, .zc]]⟩)] } : St) := by
   intro dn
   induction dn with
   | zero =>
    intro dB0 dB1 dB3 dB4 dB5 dB6 dB7 dB8 dQ0 dQ1 dQ3 dQ4 dQ5 dQ6 dQ7 dQ8 dh0 dh1 dh3 dh4 dh5 dh6 dh7 dh8 d4 c4 c2 c1 f6 dhn
    exact absurd (show false = true from cntF_zero  _ dhn 2 (by show 2 < 12; decide)) (by decide)
   | succ dn ih =>
    intro dB0 dB1 dB3 dB4 dB5 dB6 dB7 dB8 dQ0 dQ1 dQ3 dQ4 dQ5 dQ6 dQ7 dQ8 dh0 dh1 dh3 dh4 dh5 dh6 dh7 dh8 d4 c4 c2 c1 f6 dhn
    subst dhR
    refine dwp_next (is := [0, 1, 2, 3, 4, 5, 6, 7, 8, 9, 10, 11]) rfl ?_
    refine allRdy_q rfl rfl (fun h0 h1 => ?_) ?_
    ·
     cases (show dB0 = false from h0)
     refine rn hA 1 ?_
     refine ow_ ?_
     exact ih (fun _ => rfl) dh1 dh3 dh4 dh5 dh6 dh7 dh8 (fun _ => rfl) c4 c2 c1 f6 (cnt_dec h0 (by show 0 < 12; decide) dhn)
    refine allRdy_q rfl rfl (fun h0 h1 => ?_) ?_
    ·
     cases (show dB1 = false from h0)
     obtain rfl : dB0 = true := h1.1
     obtain rfl := dh0 rfl
     refine rn hA 1 ?_
     refine ow_ ?_
     exact ih (fun _ => rfl) (fun _ => rfl) dh3 dh4 dh5 dh6 dh7 dh8 (fun _ => rfl) c4 c2 c1 f6 (cnt_dec h0 (by show 1 < 12; decide) dhn)
    refine allRdy_q rfl rfl (fun h0 h1 => ?_) ?_
    ·
     obtain rfl : dB1 = true := h1.1
     obtain rfl := dh1 rfl
     obtain rfl : dB0 = true := d4 rfl
     obtain rfl := dh0 rfl
     refine ops_callV rfl rfl (by cbv) (by cbv) hc2 (.inr rfl) (by cbv) ?_
     refine ops_done (dwp_to [.up 5, .up 2, .up 1] (by cbv) rfl ?_)
     exact H_2 dn dh3 dh4 dh5 dh6 dh7 dh8 c4 c2 c1 f6 (cnt_dec h0 (by show 2 < 12; decide) dhn)
    refine allRdy_q rfl rfl (fun h0 h1 => ?_) ?_
    ·
     cases (show dB3 = false from h0)
     refine rn hA 1 ?_
     refine ow_ ?_
     exact ih dh0 dh1 (fun _ => rfl) dh4 dh5 dh6 dh7 dh8 d4 (fun _ => rfl) c2 c1 f6 (cnt_dec h0 (by show 3 < 12; decide) dhn)
    refine allRdy_q rfl rfl (fun h0 h1 => ?_) ?_
    ·
     cases (show dB4 = false from h0)
     obtain rfl : dB3 = true := h1.1
     obtain rfl := dh3 rfl
     refine rn hA 1 ?_
     refine ow_ ?_
     exact ih dh0 dh1 (fun _ => rfl) (fun _ => rfl) dh5 dh6 dh7 dh8 d4 (fun _ => rfl) (fun _ => rfl) c1 f6 (cnt_dec h0 (by show 4 < 12; decide) dhn)
    refine allRdy_q rfl rfl (fun h0 h1 => ?_) ?_
    ·
     cases (show dB5 = false from h0)
     obtain rfl : dB4 = true := h1.1
     obtain rfl := dh4 rfl
     obtain rfl : dB3 = true := c4 rfl
     obtain rfl := dh3 rfl
     refine rn hA 1 ?_
     refine ow_ ?_
     exact ih dh0 dh1 (fun _ => rfl) (fun _ => rfl) (fun _ => rfl) dh6 dh7 dh8 d4 (fun _ => rfl) (fun _ => rfl) (fun _ => rfl) f6 (cnt_dec h0 (by show 5 < 12; decide) dhn)
    refine allRdy_q rfl rfl (fun h0 h1 => ?_) ?_
    ·
     cases (show dB6 = false from h0)
     obtain rfl : dB5 = true := h1.1
     obtain rfl := dh5 rfl
     obtain rfl : dB4 = true := c2 rfl
     obtain rfl := dh4 rfl
     obtain rfl : dB3 = true := c4 rfl
     obtain rfl := dh3 rfl
     refine rn hA 1 ?_
     refine ow_ ?_
     exact ih dh0 dh1 (fun _ => rfl) (fun _ => rfl) (fun _ => rfl) (fun _ => rfl) dh7 dh8 d4 (fun _ => rfl) (fun _ => rfl) (fun _ => rfl) f6 (cnt_dec h0 (by show 6 < 12; decide) dhn)
    refine allRdy_q rfl rfl (fun h0 h1 => ?_) ?_
    ·
     cases (show dB7 = false from h0)
     refine rn hA 1 ?_
     refine ow_ ?_
     exact ih dh0 dh1 dh3 dh4 dh5 dh6 (fun _ => rfl) dh8 d4 c4 c2 c1 (fun _ => rfl) (cnt_dec h0 (by show 7 < 12; decide) dhn)
    refine allRdy_q rfl rfl (fun h0 h1 => ?_) ?_
    ·
     cases (show dB8 = false from h0)
     obtain rfl : dB7 = true := h1.1
     obtain rfl := dh7 rfl
     refine rn hA 1 ?_
     refine ow_ ?_
     exact ih dh0 dh1 dh3 dh4 dh5 dh6 (fun _ => rfl) (fun _ => rfl) d4 c4 c2 c1 (fun _ => rfl) (cnt_dec h0 (by show 8 < 12; decide) dhn)
    refine allRdy_q rfl rfl (fun _ h1 => absurd (show false = true from h1.2.1) (by decide)) ?_
    refine allRdy_q rfl rfl (fun _ h1 => absurd (show false = true from h1.1) (by decide)) ?_
    refine allRdy_q rfl rfl (fun _ h1 => absurd (show false = true from h1.1) (by decide)) ?_
    exact trivial
  exact dwp_to [.up 2, .up 1] (by cbv) rfl (@H_ 12 false false false false false false false false (.bad) (.bad) (.bad) (.bad) (.bad) (.bad) (.bad) (.bad) (fun h => absurd h (by decide)) (fun h => absurd h (by decide)) (fun h => absurd h (by decide)) (fun h => absurd h (by decide)) (fun h => absurd h (by decide)) (fun h => absurd h (by decide)) (fun h => absurd h (by decide)) (fun h => absurd h (by decide)) (fun h => absurd h (by decide)) (fun h => absurd h (by decide)) (fun h => absurd h (by decide)) (fun h => absurd h (by decide)) (fun h => absurd h (by decide)) rfl)
 refine go_ret ⟨_, by cbv, ?_⟩
 show _ = (PV.agg [.ow 5 f4, .ii a0, .ow 17 j0])
 simp only [j8, k6]
 rfl
def S21_1 (p0 : Int) (p1 : RR) (p2 : RR) (p3 : Int) (p4 : RR) (p5 : Int) (p6 : Int) (p7 : Int) (p8 : Int) (p9 : RR) (p10 : RR) (p11 : Int) (p12 : RR) (p13 : RR) : St := { sl := [.bad, .pt 1 0 0, .pt 2 0 0, .pt 3 0 0, .ii p0, .bad, .bad, .bad, .bad, .bad, .bad, .bad, .bad, .bad, .bad, .bad, .bad, .bad, .bad, .bad, .bad, .bad, .bad, .bad, .bad, .bad, .bad, .bad, .bad, .bad, .bad, .bad], bl := [(1, ⟨.var, 10, [[.sl 1 p1, .sl 2 p2, .ii p3, .sl 4 p4, .ii p5, .ii p6, .ii p7, .ii p8, .sl 1 p9, .sl 17 p10]]⟩), (2, ⟨.var, 3, [[.zc, .ii p11, .zc]]⟩), (3, ⟨.var, 3, [[.own 7, .ii p8, .own 7003]]⟩), (7, ⟨.arr, 5, p12⟩), (7003, ⟨.arr, 17, p13⟩)] }
theorem r_spec_PlainOf (A : Alg) (hA : A = std) (x : GServer) (hz : ∀ q ∈ zsServer x, q ≤ 1048576) (hil : (itemsL x.Store.Log.Used).length ≤ 1048576) : Real Tryz.prog 21 [.agg (eServer x)] (.agg (eoPlain (plainOf x))) := by
 obtain ⟨⟨⟨⟨b2, b7⟩, a6, c0, a3, a4, a5, a0⟩, d8⟩, d5⟩ := x
 obtain ⟨a1, c8⟩ := nm (b2.map eString)
 have g9 := rlen_map hA c8
 obtain ⟨a2, d0⟩ := nm (b7.map eWrite)
 have i4 := rlen_map hA d0
 obtain ⟨a7, d9⟩ := nm (c0.map eSeg)
 have j4 := rlen_map hA d9
 obtain ⟨a9, e3⟩ := nm (d8.map eInt)
 have j9 := rlen_map hA e3
 obtain ⟨a8, e7⟩ := nm (d5.map eSession)
 have k1 := rlen_map hA e7
 refine real_args (args' := [.agg [.sl 1 a1, .sl 2 a2, .ii a6, .sl 4 a7, .ii a3, .ii a4, .ii a5, .ii a0, .sl 1 a9, .sl 17 a8]]) (by subst c8 d0 d9 e3 e7; rfl) ?_
 have i6 : ∀ q ∈ zsStore (⟨⟨⟨b2, b7⟩, a6, c0, a3, a4, a5, a0⟩, d8⟩ : GStore), q ≤ 1048576 := fun q hq => hz q (by simp only [zsServer, List.mem_append]; simp only [hq, true_or, or_true])
 have f8 : ∀ q ∈ zsLog (⟨⟨b2, b7⟩, a6, c0, a3, a4, a5, a0⟩ : GLog), q ≤ 1048576 := fun q hq => i6 q (by simp only [zsStore, List.mem_append]; simp only [hq, true_or, or_true])
 have e8 : ∀ q ∈ zsDisk (⟨b2, b7⟩ : GDisk), q ≤ 1048576 := fun q hq => f8 q (by simp only [zsLog, List.mem_append]; simp only [hq, true_or, or_true])
 have e9 : ∀ q ∈ zsStringS b2, q ≤ 1048576 := fun q hq => e8 q (by simp only [zsDisk, List.mem_append]; simp only [hq, true_or, or_true])
 have i3 : List.length b2 ≤ 1048576 := e9 _ (by simp [zsStringS])
 have f1 : ∀ q ∈ zsWriteS b7, q ≤ 1048576 := fun q hq => e8 q (by simp only [zsDisk, List.mem_append]; simp only [hq, true_or, or_true])
 have i7 : List.length b7 ≤ 1048576 := f1 _ (by simp [zsWriteS])
 have g1 : ∀ q ∈ zsSegS c0, q ≤ 1048576 := fun q hq => f8 q (by simp only [zsLog, List.mem_append]; simp only [hq, true_or, or_true])
 have j6 : List.length c0 ≤ 1048576 := g1 _ (by simp [zsSegS])
 have g6 : ∀ q ∈ zsIntS d8, q ≤ 1048576 := fun q hq => i6 q (by simp only [zsStore, List.mem_append]; simp only [hq, true_or, or_true])
 have k0 : List.length d8 ≤ 1048576 := g6 _ (by simp [zsIntS])
 have g8 : ∀ q ∈ zsSessionS d5, q ≤ 1048576 := fun q hq => hz q (by simp only [zsServer, List.mem_append]; simp only [hq, true_or, or_true])
 have k2 : List.length d5 ≤ 1048576 := g8 _ (by simp [zsSessionS])
 have hil : (itemsL c0).length ≤ 1048576 := hil
 refine real tyOk Tryz.func21 (by kernel_rfl) (afun_of rfl ?_)
 refine gx hA 2 ?_
 refine gs ?_
 obtain ⟨d6, j7, hc2⟩ : ∃ (d6 : RR), d6 = List.map eoBox ((stateS (itemsL c0)).Boxes) ∧ Real Tryz.prog 49 [.agg [.sl 1 a1, .sl 2 a2, .ii a6, .sl 4 a7, .ii a3, .ii a4, .ii a5, .ii a0, .sl 1 a9]] (.agg [.ow 5 d6]) := ⟨_, rfl, by subst c8 d0 d9 e3; exact r_spec_StateNow A hA (⟨⟨⟨b2, b7⟩, a6, c0, a3, a4, a5, a0⟩, d8⟩ : GStore) (by assumption) hil⟩
 have m0 := rlen_map hA j7
 refine go_drawE [0, 1, 2, 3, 4, 5, 6, 7, 8, 9] (by cbv) rfl rfl ({ sl := [.agg [.sl 1 a1, .sl 2 a2, .ii a6, .sl 4 a7, .ii a3, .ii a4, .ii a5, .ii a0, .sl 1 a9, .sl 17 a8], .pt 1 0 0, .pt 2 0 0, .pt 3 0 0, .bad, .pt 1 0 0, .agg [.sl 1 a1, .sl 2 a2, .ii a6, .sl 4 a7, .ii a3, .ii a4, .ii a5, .ii a0, .sl 1 a9], .agg [.own 7], .pt 1 0 0, .pt 1 0 0, .pt 1 0 7, .ii a0, .agg [.own 7, .ii a0, .zc], .bad, .bad, .bad, .bad, .bad, .bad, .bad, .bad, .bad, .bad, .bad, .bad, .bad, .bad, .bad, .bad, .bad, .bad, .bad], bl := [(1, ⟨.var, 10, [[.sl 1 a1, .sl 2 a2, .ii a6, .sl 4 a7, .ii a3, .ii a4, .ii a5, .ii a0, .sl 1 a9, .sl 17 a8]]⟩), (2, ⟨.var, 3, [[.zc, .ii 0, .zc]]⟩), (3, ⟨.var, 3, [[.own 7, .ii a0, .zc]]⟩), (7, ⟨.arr, 5, d6⟩)] } : St) (fun dR dK dhR dhF => ?_) ?_
 ·
  have l9 : ∀ (dn : Nat), cntF [true, true, true, true, true, true, true, true, true, true] = dn → dwp T ⟨Real Tryz.prog, RealM Tryz.prog, RealC Tryz.prog⟩ dR dK dn [true, true, true, true, true, true, true, true, true, true] ({ sl := [.agg [.sl 1 a1, .sl 2 a2, .ii a6, .sl 4 a7, .ii a3, .ii a4, .ii a5, .ii a0, .sl 1 a9, .sl 17 a8], .pt 1 0 0, .pt 2 0 0, .pt 3 0 0, .bad, .pt 1 0 0, .agg [.sl 1 a1, .sl 2 a2, .ii a6, .sl 4 a7, .ii a3, .ii a4, .ii a5, .ii a0, .sl 1 a9], .agg [.own 7], .pt 1 0 0, .pt 1 0 0, .pt 1 0 7, .ii a0, .agg [.own 7, .ii a0, .zc], .bad, .bad, .bad, .bad, .bad, .bad, .bad, .bad, .bad, .bad, .bad, .bad, .bad, .bad, .bad, .bad, .bad, .bad, .bad], bl := [(1, ⟨.var, 10, [[.sl 1 a1, .sl 2 a2, .ii a6, .sl 4 a7, .ii a3, .ii a4, .ii a5, .ii a0, .sl 1 a9, .sl 17 a8]]⟩), (2, ⟨.var, 3, [[.zc, .ii 0, .zc]]⟩), (3, ⟨.var, 3, [[.own 7, .ii a0, .zc]]⟩), (7, ⟨.arr, 5, d6⟩)] } : St) := by
   intro dn
   induction dn with
   | zero =>
    intro  dhn
    exact dwp_last dhF
   | succ dn ih =>
    intro  dhn
    subst dhR
    refine dwp_next (is := [0, 1, 2, 3, 4, 5, 6, 7, 8, 9]) rfl ?_
    refine allRdy_none rfl ?_
    refine allRdy_none rfl ?_
    refine allRdy_none rfl ?_
    refine allRdy_none rfl ?_
    refine allRdy_none rfl ?_
    refine allRdy_none rfl ?_
    refine allRdy_none rfl ?_
    refine allRdy_none rfl ?_
    refine allRdy_none rfl ?_
    refine allRdy_none rfl ?_
    exact trivial
  have l4 : ∀ (dn : Nat) {dB3 dB4 dB5 dB6 dB7 : Bool} {dQ3 dQ4 dQ5 dQ6 dQ7 : PV}, (dB3 = true → dQ3 = .pt 1 0 0) → (dB4 = true → dQ4 = .pt 1 0 0) → (dB5 = true → dQ5 = .pt 1 0 7) → (dB6 = true → dQ6 = .ii a0) → (dB7 = true → dQ7 = .agg [.own 7, .ii a0, .zc]) → (dB4 = true → dB3 = true) → (dB5 = true → dB4 = true) → (dB6 = true → dB5 = true) → (dB7 = true → dB6 = true) → cntF [true, true, true, dB3, dB4, dB5, dB6, dB7, true, false] = dn → dwp T ⟨Real Tryz.prog, RealM Tryz.prog, RealC Tryz.prog⟩ dR dK dn [true, true, true, dB3, dB4, dB5, dB6, dB7, true, false] ({ sl := [.agg [.sl 1 a1, .sl 2 a2, .ii a6, .sl 4 a7, .ii a3, .ii a4, .ii a5, .ii a0, .sl 1 a9, .sl 17 a8], .pt 1 0 0, .pt 2 0 0, .pt 3 0 0, .bad, .pt 1 0 0, .agg [.sl 1 a1, .sl 2 a2, .ii a6, .sl 4 a7, .ii a3, .ii a4, .ii a5, .ii a0, .sl 1 a9], .agg [.own 7], dQ3, dQ4, dQ5, dQ6, dQ7, .bad, .bad, .bad, .bad, .bad, .bad, .bad, .bad, .bad, .bad, .bad, .bad, .bad, .bad, .bad, .bad, .bad, .bad, .bad], bl := [(1, ⟨.var, 10, [[.sl 1 a1, .sl 2 a2, .ii a6, .sl 4 a7, .ii a3, .ii a4, .ii a5, .ii a0, .sl 1 a9, .sl 17 a8]]⟩), (2, ⟨.var, 3, [[.zc, .ii 0, .zc]]⟩), (3, ⟨.var, 3, [[.zc, .ii 0, .zc]]⟩), (7, ⟨.arr, 5, d6⟩)] } : St) := by
   intro dn
   induction dn with
   | zero =>
    intro dB3 dB4 dB5 dB6 dB7 dQ3 dQ4 dQ5 dQ6 dQ7 dh3 dh4 dh5 dh6 dh7 c4 c2 c1 g5 dhn
    exact absurd (show false = true from cntF_zero  _ dhn 9 (by show 9 < 10; decide)) (by decide)
   | succ dn ih =>
    intro dB3 dB4 dB5 dB6 dB7 dQ3 dQ4 dQ5 dQ6 dQ7 dh3 dh4 dh5 dh6 dh7 c4 c2 c1 g5 dhn
    subst dhR
    refine dwp_next (is := [0, 1, 2, 3, 4, 5, 6, 7, 8, 9]) rfl ?_
    refine allRdy_none rfl ?_
    refine allRdy_none rfl ?_
    refine allRdy_none rfl ?_
    refine allRdy_q rfl rfl (fun h0 h1 => ?_) ?_
    ·
     cases (show dB3 = false from h0)
     refine rn hA 1 ?_
     refine ow_ ?_
     exact ih (fun _ => rfl) dh4 dh5 dh6 dh7 (fun _ => rfl) c2 c1 g5 (cnt_dec h0 (by show 3 < 10; decide) dhn)
    refine allRdy_q rfl rfl (fun h0 h1 => ?_) ?_
    ·
     cases (show dB4 = false from h0)
     obtain rfl : dB3 = true := h1.1
     obtain rfl := dh3 rfl
     refine rn hA 1 ?_
     refine ow_ ?_
     exact ih (fun _ => rfl) (fun _ => rfl) dh5 dh6 dh7 (fun _ => rfl) (fun _ => rfl) c1 g5 (cnt_dec h0 (by show 4 < 10; decide) dhn)
    refine allRdy_q rfl rfl (fun h0 h1 => ?_) ?_
    ·
     cases (show dB5 = false from h0)
     obtain rfl : dB4 = true := h1.1
     obtain rfl := dh4 rfl
     obtain rfl : dB3 = true := c4 rfl
     obtain rfl := dh3 rfl
     refine rn hA 1 ?_
     refine ow_ ?_
     exact ih (fun _ => rfl) (fun _ => rfl) (fun _ => rfl) dh6 dh7 (fun _ => rfl) (fun _ => rfl) (fun _ => rfl) g5 (cnt_dec h0 (by show 5 < 10; decide) dhn)
    refine allRdy_q rfl rfl (fun h0 h1 => ?_) ?_
    ·
     cases (show dB6 = false from h0)
     obtain rfl : dB5 = true := h1.1
     obtain rfl := dh5 rfl
     obtain rfl : dB4 = true := c2 rfl
     obtain rfl := dh4 rfl
     obtain rfl : dB3 = true := c4 rfl
     obtain rfl := dh3 rfl
     refine rn hA 1 ?_
     refine ow_ ?_
     exact ih (fun _ => rfl) (fun _ => rfl) (fun _ => rfl) (fun _ => rfl) dh7 (fun _ => rfl) (fun _ => rfl) (fun _ => rfl) (fun _ => rfl) (cnt_dec h0 (by show 6 < 10; decide) dhn)
    refine allRdy_q rfl rfl (fun h0 h1 => ?_) ?_
    ·
     cases (show dB7 = false from h0)
     obtain rfl : dB6 = true := h1.2.1
     obtain rfl := dh6 rfl
     obtain rfl : dB5 = true := c1 rfl
     obtain rfl := dh5 rfl
     obtain rfl : dB4 = true := c2 rfl
     obtain rfl := dh4 rfl
     obtain rfl : dB3 = true := c4 rfl
     obtain rfl := dh3 rfl
     refine rn hA 1 ?_
     refine ow_ ?_
     exact ih (fun _ => rfl) (fun _ => rfl) (fun _ => rfl) (fun _ => rfl) (fun _ => rfl) (fun _ => rfl) (fun _ => rfl) (fun _ => rfl) (fun _ => rfl) (cnt_dec h0 (by show 7 < 10; decide) dhn)
    refine allRdy_none rfl ?_
    refine allRdy_q rfl rfl (fun h0 h1 => ?_) ?_
    ·
     obtain rfl : dB7 = true := h1.2.1
     obtain rfl := dh7 rfl
     obtain rfl : dB6 = true := g5 rfl
     obtain rfl := dh6 rfl
     obtain rfl : dB5 = true := c1 rfl
     obtain rfl := dh5 rfl
     obtain rfl : dB4 = true := c2 rfl
     obtain rfl := dh4 rfl
     obtain rfl : dB3 = true := c4 rfl
     obtain rfl := dh3 rfl
     refine rn hA 1 ?_
     refine ow_ ?_
     exact l9 dn (cnt_dec h0 (by show 9 < 10; decide) dhn)
    exact trivial
  have H_2 : ∀ (dn : Nat) {dB3 dB4 dB5 dB6 dB7 : Bool} {dQ3 dQ4 dQ5 dQ6 dQ7 : PV}, (dB3 = true → dQ3 = .pt 1 0 0) → (dB4 = true → dQ4 = .pt 1 0 0) → (dB5 = true → dQ5 = .pt 1 0 7) → (dB6 = true → dQ6 = .ii a0) → (dB7 = true → dQ7 = .agg [.own 7, .ii a0, .zc]) → (dB4 = true → dB3 = true) → (dB5 = true → dB4 = true) → (dB6 = true → dB5 = true) → (dB7 = true → dB6 = true) → cntF [true, true, true, dB3, dB4, dB5, dB6, dB7, false, false] = dn → dwp T ⟨Real Tryz.prog, RealM Tryz.prog, RealC Tryz.prog⟩ dR dK dn [true, true, true, dB3, dB4, dB5, dB6, dB7, false, false] ({ sl := [.agg [.sl 1 a1, .sl 2 a2, .ii a6, .sl 4 a7, .ii a3, .ii a4, .ii a5, .ii a0, .sl 1 a9, .sl 17 a8], .pt 1 0 0, .pt 2 0 0, .bad, .bad, .pt 1 0 0, .agg [.sl 1 a1, .sl 2 a2, .ii a6, .sl 4 a7, .ii a3, .ii a4, .ii a5, .ii a0, .sl 1 a9], .agg [.own 7], dQ3, dQ4, dQ5, dQ6, dQ7, .bad, .bad, .bad, .bad, .bad, .bad, .bad, .bad, .bad, .bad, .bad, .bad, .bad, .bad, .bad, .bad, .bad, .bad, .bad], bl := [(1, ⟨.var, 10, [[.sl 1 a1, .sl 2 a2, .ii a6, .sl 4 a7, .ii a3, .ii a4, .ii a5, .ii a0, .sl 1 a9, .sl 17 a8]]⟩), (2, ⟨.var, 3, [[.zc, .ii 0, .zc]]⟩), (7, ⟨.arr, 5, d6⟩)] } : St) := by
   intro dn
   induction dn with
   | zero =>
    intro dB3 dB4 dB5 dB6 dB7 dQ3 dQ4 dQ5 dQ6 dQ7 dh3 dh4 dh5 dh6 dh7 c4 c2 c1 g5 dhn
    exact absurd (show false = true from cntF_zero  _ dhn 8 (by show 8 < 10; decide)) (by decide)
   | succ dn ih =>
    intro dB3 dB4 dB5 dB6 dB7 dQ3 dQ4 dQ5 dQ6 dQ7 dh3 dh4 dh5 dh6 dh7 c4 c2 c1 g5 dhn
    subst dhR
    refine dwp_next (is := [0, 1, 2, 3, 4, 5, 6, 7, 8, 9]) rfl ?_
    refine allRdy_none rfl ?_
    refine allRdy_none rfl ?_
    refine allRdy_none rfl ?_
    refine allRdy_q rfl rfl (fun h0 h1 => ?_) ?_
    ·
     cases (show dB3 = false from h0)
     refine rn hA 1 ?_
     refine ow_ ?_
     exact ih (fun _ => rfl) dh4 dh5 dh6 dh7 (fun _ => rfl) c2 c1 g5 (cnt_dec h0 (by show 3 < 10; decide) dhn)
    refine allRdy_q rfl rfl (fun h0 h1 => ?_) ?_
    ·
     cases (show dB4 = false from h0)
     obtain rfl : dB3 = true := h1.1
     obtain rfl := dh3 rfl
     refine rn hA 1 ?_
     refine ow_ ?_
     exact ih (fun _ => rfl) (fun _ => rfl) dh5 dh6 dh7 (fun _ => rfl) (fun _ => rfl) c1 g5 (cnt_dec h0 (by show 4 < 10; decide) dhn)
    refine allRdy_q rfl rfl (fun h0 h1 => ?_) ?_
    ·
     cases (show dB5 = false from h0)
     obtain rfl : dB4 = true := h1.1
     obtain rfl := dh4 rfl
     obtain rfl : dB3 = true := c4 rfl
     obtain rfl := dh3 rfl
     refine rn hA 1 ?_
     refine ow_ ?_
     exact ih (fun _ => rfl) (fun _ => rfl) (fun _ => rfl) dh6 dh7 (fun _ => rfl) (fun _ => rfl) (fun _ => rfl) g5 (cnt_dec h0 (by show 5 < 10; decide) dhn)
    refine allRdy_q rfl rfl (fun h0 h1 => ?_) ?_
    ·
     cases (show dB6 = false from h0)
     obtain rfl : dB5 = true := h1.1
     obtain rfl := dh5 rfl
     obtain rfl : dB4 = true := c2 rfl
     obtain rfl := dh4 rfl
     obtain rfl : dB3 = true := c4 rfl
     obtain rfl := dh3 rfl
     refine rn hA 1 ?_
     refine ow_ ?_
     exact ih (fun _ => rfl) (fun _ => rfl) (fun _ => rfl) (fun _ => rfl) dh7 (fun _ => rfl) (fun _ => rfl) (fun _ => rfl) (fun _ => rfl) (cnt_dec h0 (by show 6 < 10; decide) dhn)
    refine allRdy_q rfl rfl (fun h0 h1 => ?_) ?_
    ·
     cases (show dB7 = false from h0)
     obtain rfl : dB6 = true := h1.2.1
     obtain rfl := dh6 rfl
     obtain rfl : dB5 = true := c1 rfl
     obtain rfl := dh5 rfl
     obtain rfl : dB4 = true := c2 rfl
     obtain rfl := dh4 rfl
     obtain rfl : dB3 = true := c4 rfl
     obtain rfl := dh3 rfl
     refine rn hA 1 ?_
     refine ow_ ?_
     exact ih (fun _ => rfl) (fun _ => rfl) (fun _ => rfl) (fun _ => rfl) (fun _ => rfl) (fun _ => rfl) (fun _ => rfl) (fun _ => rfl) (fun _ => rfl) (cnt_dec h0 (by show 7 < 10; decide) dhn)
    refine allRdy_q rfl rfl (fun h0 h1 => ?_) ?_
    ·
     refine rn hA 1 ?_
     refine ops_done (dwp_to [.up 7, .up 3, .up 2, .up 1] (by cbv) rfl ?_)
     exact l4 dn dh3 dh4 dh5 dh6 dh7 c4 c2 c1 g5 (cnt_dec h0 (by show 8 < 10; decide) dhn)
    refine allRdy_q rfl rfl (fun _ h1 => absurd (show false = true from h1.1) (by decide)) ?_
    exact trivial
  have H_8 : ∀ (dn : Nat) {dB0 dB1 dB3 dB4 dB5 dB6 : Bool} {dQ0 dQ1 dQ3 dQ4 dQ5 dQ6 : PV}, (dB0 = true → dQ0 = .pt 1 0 0) → (dB1 = true → dQ1 = .agg [.sl 1 a1, .sl 2 a2, .ii a6, .sl 4 a7, .ii a3, .ii a4, .ii a5, .ii a0, .sl 1 a9]) → (dB3 = true → dQ3 = .pt 1 0 0) → (dB4 = true → dQ4 = .pt 1 0 0) → (dB5 = true → dQ5 = .pt 1 0 7) → (dB6 = true → dQ6 = .ii a0) → (dB1 = true → dB0 = true) → (dB4 = true → dB3 = true) → (dB5 = true → dB4 = true) → (dB6 = true → dB5 = true) → cntF [dB0, dB1, false, dB3, dB4, dB5, dB6, false, true, false] = dn → dwp T ⟨Real Tryz.prog, RealM Tryz.prog, RealC Tryz.prog⟩ dR dK dn [dB0, dB1, false, dB3, dB4, dB5, dB6, false, true, false] ({ sl := [.agg [.sl 1 a1, .sl 2 a2, .ii a6, .sl 4 a7, .ii a3, .ii a4, .ii a5, .ii a0, .sl 1 a9, .sl 17 a8], .pt 1 0 0, .pt 2 0 0, .pt 3 0 0, .bad, dQ0, dQ1, .bad, dQ3, dQ4, dQ5, dQ6, .bad, .bad, .bad, .bad, .bad, .bad, .bad, .bad, .bad, .bad, .bad, .bad, .bad, .bad, .bad, .bad, .bad, .bad, .bad, .bad], bl := [(1, ⟨.var, 10, [[.sl 1 a1, .sl 2 a2, .ii a6, .sl 4 a7, .ii a3, .ii a4, .ii a5, .ii a0, .sl 1 a9, .sl 17 a8]]⟩), (2, ⟨.var, 3, [[.zc, .ii 0, .zc]]⟩), (3, ⟨.var, 3, [[.zc, .ii 0, .zc]]⟩)] } : St) := by
   intro dn
   induction dn with
   | zero =>
    intro dB0 dB1 dB3 dB4 dB5 dB6 dQ0 dQ1 dQ3 dQ4 dQ5 dQ6 dh0 dh1 dh3 dh4 dh5 dh6 d4 c4 c2 c1 dhn
    exact absurd (show false = true from cntF_zero  _ dhn 2 (by show 2 < 10; decide)) (by decide)
   | succ dn ih =>
    intro dB0 dB1 dB3 dB4 dB5 dB6 dQ0 dQ1 dQ3 dQ4 dQ5 dQ6 dh0 dh1 dh3 dh4 dh5 dh6 d4 c4 c2 c1 dhn
    subst dhR
    refine dwp_next (is := [0, 1, 2, 3, 4, 5, 6, 7, 8, 9]) rfl ?_
    refine allRdy_q rfl rfl (fun h0 h1 => ?_) ?_
    ·
     cases (show dB0 = false from h0)
     refine rn hA 1 ?_
     refine ow_ ?_
     exact ih (fun _ => rfl) dh1 dh3 dh4 dh5 dh6 (fun _ => rfl) c4 c2 c1 (cnt_dec h0 (by show 0 < 10; decide) dhn)
    refine allRdy_q rfl rfl (fun h0 h1 => ?_) ?_
    ·
     cases (show dB1 = false from h0)
     obtain rfl : dB0 = true := h1.1
     obtain rfl := dh0 rfl
     refine rn hA 1 ?_
     refine ow_ ?_
     exact ih (fun _ => rfl) (fun _ => rfl) dh3 dh4 dh5 dh6 (fun _ => rfl) c4 c2 c1 (cnt_dec h0 (by show 1 < 10; decide) dhn)
    refine allRdy_q rfl rfl (fun h0 h1 => ?_) ?_
    ·
     obtain rfl : dB1 = true := h1.1
     obtain rfl := dh1 rfl
     obtain rfl : dB0 = true := d4 rfl
     obtain rfl := dh0 rfl
     refine ops_callV rfl rfl (by cbv) (by cbv) hc2 (.inr rfl) (by cbv) ?_
     refine ops_done (dwp_to [.up 7, .up 3, .up 2, .up 1] (by cbv) rfl ?_)
     exact l4 dn dh3 dh4 dh5 dh6 (fun h => absurd h (by decide)) c4 c2 c1 (fun h => absurd h (by decide)) (cnt_dec h0 (by show 2 < 10; decide) dhn)
    refine allRdy_q rfl rfl (fun h0 h1 => ?_) ?_
    ·
     cases (show dB3 = false from h0)
     refine rn hA 1 ?_
     refine ow_ ?_
     exact ih dh0 dh1 (fun _ => rfl) dh4 dh5 dh6 d4 (fun _ => rfl) c2 c1 (cnt_dec h0 (by show 3 < 10; decide) dhn)
    refine allRdy_q rfl rfl (fun h0 h1 => ?_) ?_
    ·
     cases (show dB4 = false from h0)
     obtain rfl : dB3 = true := h1.1
     obtain rfl := dh3 rfl
     refine rn hA 1 ?_
     refine ow_ ?_
     exact ih dh0 dh1 (fun _ => rfl) (fun _ => rfl) dh5 dh6 d4 (fun _ => rfl) (fun _ => rfl) c1 (cnt_dec h0 (by show 4 < 10; decide) dhn)
    refine allRdy_q rfl rfl (fun h0 h1 => ?_) ?_
    ·
     cases (show dB5 = false from h0)
     obtain rfl : dB4 = true := h1.1
     obtain rfl := dh4 rfl
     obtain rfl : dB3 = true := c4 rfl
     obtain rfl := dh3 rfl
     refine rn hA 1 ?_
     refine ow_ ?_
     exact ih dh0 dh1 (fun _ => rfl) (fun _ => rfl) (fun _ => rfl) dh6 d4 (fun _ => rfl) (fun _ => rfl) (fun _ => rfl) (cnt_dec h0 (by show 5 < 10; decide) dhn)
    refine allRdy_q rfl rfl (fun h0 h1 => ?_) ?_
    ·
     cases (show dB6 = false from h0)
     obtain rfl : dB5 = true := h1.1
     obtain rfl := dh5 rfl
     obtain rfl : dB4 = true := c2 rfl
     obtain rfl := dh4 rfl
     obtain rfl : dB3 = true := c4 rfl
     obtain rfl := dh3 rfl
     refine rn hA 1 ?_
     refine ow_ ?_
     exact ih dh0 dh1 (fun _ => rfl) (fun _ => rfl) (fun _ => rfl) (fun _ => rfl) d4 (fun _ => rfl) (fun _ => rfl) (fun _ => rfl) (cnt_dec h0 (by show 6 < 10; decide) dhn)
    refine allRdy_q rfl rfl (fun _ h1 => absurd (show false = true from h1.1) (by decide)) ?_
    refine allRdy_none rfl ?_
    refine allRdy_q rfl rfl (fun _ h1 => absurd (show false = true from h1.2.1) (by decide)) ?_
    exact trivial
  have H_ : ∀ (dn : Nat) {dB0 dB1 dB3 dB4 dB5 dB6 : Bool} {dQ0 dQ1 dQ3 dQ4 dQ5 dQ6 : PV}, (dB0 = true → dQ0 = .pt 1 0 0) → (dB1 = true → dQ1 = .agg [.sl 1 a1, .sl 2 a2, .ii a6, .sl 4 a7, .ii a3, .ii a4, .ii a5, .ii a0, .sl 1 a9]) → (dB3 = true → dQ3 = .pt 1 0 0) → (dB4 = true → dQ4 = .pt 1 0 0) → (dB5 = true → dQ5 = .pt 1 0 7) → (dB6 = true → dQ6 = .ii a0) → (dB1 = true → dB0 = true) → (dB4 = true → dB3 = true) → (dB5 = true → dB4 = true) → (dB6 = true → dB5 = true) → cntF [dB0, dB1, false, dB3, dB4, dB5, dB6, false, false, false] = dn → dwp T ⟨Real Tryz.prog, RealM Tryz.prog, RealC Tryz.prog⟩ dR dK dn [dB0, dB1, false, dB3, dB4, dB5, dB6, false, false, false] ({ sl := [.agg [.sl 1 a1, .sl 2 a2, .ii a6, .sl 4 a7, .ii a3, .ii a4, .ii a5, .ii a0, .sl 1 a9, .sl 17 a8], .pt 1 0 0, .pt 2 0 0, .bad, .bad, dQ0, dQ1, .bad, dQ3, dQ4, dQ5, dQ6, .bad, .bad, .bad, .bad, .bad, .bad, .bad, .bad, .bad, .bad, .bad, .bad, .bad, .bad, .bad, .bad, .bad, .bad, .bad, .bad], bl := [(1, ⟨.var, 10, [[.sl 1 a1, .sl 2 a2, .ii a6, .sl 4 a7, .ii a3, .ii a4, .ii a5, .ii a0, .sl 1 a9, .sl 17 a8]]⟩), (2, ⟨.var, 3, [[.zc, .ii 0, .zc]]⟩)] } : St) := by
   intro dn
   induction dn with
   | zero =>
    intro dB0 dB1 dB3 dB4 dB5 dB6 dQ0 dQ1 dQ3 dQ4 dQ5 dQ6 dh0 dh1 dh3 dh4 dh5 dh6 d4 c4 c2 c1 dhn
    exact absurd (show false = true from cntF_zero  _ dhn 2 (by show 2 < 10; decide)) (by decide)
   | succ dn ih =>
    intro dB0 dB1 dB3 dB4 dB5 dB6 dQ0 dQ1 dQ3 dQ4 dQ5 dQ6 dh0 dh1 dh3 dh4 dh5 dh6 d4 c4 c2 c1 dhn
    subst dhR
    refine dwp_next (is := [0, 1, 2, 3, 4, 5, 6, 7, 8, 9]) rfl ?_
    refine allRdy_q rfl rfl (fun h0 h1 => ?_) ?_
    ·
     cases (show dB0 = false from h0)
     refine rn hA 1 ?_
     refine ow_ ?_
     exact ih (fun _ => rfl) dh1 dh3 dh4 dh5 dh6 (fun _ => rfl) c4 c2 c1 (cnt_dec h0 (by show 0 < 10; decide) dhn)
    refine allRdy_q rfl rfl (fun h0 h1 => ?_) ?_
    ·
     cases (show dB1 = false from h0)
     obtain rfl : dB0 = true := h1.1
     obtain rfl := dh0 rfl
     refine rn hA 1 ?_
     refine ow_ ?_
     exact ih (fun _ => rfl) (fun _ => rfl) dh3 dh4 dh5 dh6 (fun _ => rfl) c4 c2 c1 (cnt_dec h0 (by show 1 < 10; decide) dhn)
    refine allRdy_q rfl rfl (fun h0 h1 => ?_) ?_
    ·
     obtain rfl : dB1 = true := h1.1
     obtain rfl := dh1 rfl
     obtain rfl : dB0 = true := d4 rfl
     obtain rfl := dh0 rfl
     refine ops_callV rfl rfl (by cbv) (by cbv) hc2 (.inr rfl) (by cbv) ?_
     refine ops_done (dwp_to [.up 7, .up 2, .up 1] (by cbv) rfl ?_)
     exact H_2 dn dh3 dh4 dh5 dh6 (fun h => absurd h (by decide)) c4 c2 c1 (fun h => absurd h (by decide)) (cnt_dec h0 (by show 2 < 10; decide) dhn)
    refine allRdy_q rfl rfl (fun h0 h1 => ?_) ?_
    ·
     cases (show dB3 = false from h0)
     refine rn hA 1 ?_
     refine ow_ ?_
     exact ih dh0 dh1 (fun _ => rfl) dh4 dh5 dh6 d4 (fun _ => rfl) c2 c1 (cnt_dec h0 (by show 3 < 10; decide) dhn)
    refine allRdy_q rfl rfl (fun h0 h1 => ?_) ?_
    ·
     cases (show dB4 = false from h0)
     obtain rfl : dB3 = true := h1.1
     obtain rfl := dh3 rfl
     refine rn hA 1 ?_
     refine ow_ ?_
     exact ih dh0 dh1 (fun _ => rfl) (fun _ => rfl) dh5 dh6 d4 (fun _ => rfl) (fun _ => rfl) c1 (cnt_dec h0 (by show 4 < 10; decide) dhn)
    refine allRdy_q rfl rfl (fun h0 h1 => ?_) ?_
    ·
     cases (show dB5 = false from h0)
     obtain rfl : dB4 = true := h1.1
     obtain rfl := dh4 rfl
     obtain rfl : dB3 = true := c4 rfl
     obtain rfl := dh3 rfl
     refine rn hA 1 ?_
     refine ow_ ?_
     exact ih dh0 dh1 (fun _ => rfl) (fun _ => rfl) (fun _ => rfl) dh6 d4 (fun _ => rfl) (fun _ => rfl) (fun _ => rfl) (cnt_dec h0 (by show 5 < 10; decide) dhn)
    refine allRdy_q rfl rfl (fun h0 h1 => ?_) ?_
    ·
     cases (show dB6 = false from h0)
     obtain rfl : dB5 = true := h1.1
     obtain rfl := dh5 rfl
     obtain rfl : dB4 = true := c2 rfl
     obtain rfl := dh4 rfl
     obtain rfl : dB3 = true := c4 rfl
     obtain rfl := dh3 rfl
     refine rn hA 1 ?_
     refine ow_ ?_
     exact ih dh0 dh1 (fun _ => rfl) (fun _ => rfl) (fun _ => rfl) (fun _ => rfl) d4 (fun _ => rfl) (fun _ => rfl) (fun _ => rfl) (cnt_dec h0 (by show 6 < 10; decide) dhn)
    refine allRdy_q rfl rfl (fun _ h1 => absurd (show false = true from h1.1) (by decide)) ?_
    refine allRdy_q rfl rfl (fun h0 h1 => ?_) ?_
    ·
     refine rn hA 1 ?_
     refine ops_done (dwp_to [.up 3, .up 2, .up 1] (by cbv) rfl ?_)
     exact H_8 dn dh0 dh1 dh3 dh4 dh5 dh6 d4 c4 c2 c1 (cnt_dec h0 (by show 8 < 10; decide) dhn)
    refine allRdy_q rfl rfl (fun _ h1 => absurd (show false = true from h1.1) (by decide)) ?_
    exact trivial
  exact dwp_to [.up 2, .up 1] (by cbv) rfl (@H_ 10 false false false false false false (.bad) (.bad) (.bad) (.bad) (.bad) (.bad) (fun h => absurd h (by decide)) (fun h => absurd h (by decide)) (fun h => absurd h (by decide)) (fun h => absurd h (by decide)) (fun h => absurd h (by decide)) (fun h => absurd h (by decide)) (fun h => absurd h (by decide)) (fun h => absurd h (by decide)) (fun h => absurd h (by decide)) (fun h => absurd h (by decide)) rfl)
 refine gs (gx hA 1 ?_)
 refine go_block ?_
 refine go_loopE (fun σ m => ∃ (i : Nat) (R : RR) (n : Int), σ = (S21_1 n a1 a2 a6 a7 a3 a4 a5 a0 a9 a8 0 d6 R) ∧ (n = (i : Int) ∧ i ≤ List.length d5 ∧ R = List.map eoSession (d5.take i)) ∧ m = List.length d5 - i) _ [.cell 3 2 7003 17, .up 7003, .up 7, .up 3, .up 2, .up 1] [1, 2, 3, 4] [1, 2, 3, 7, 7003] (S21_1 0 a1 a2 a6 a7 a3 a4 a5 a0 a9 a8 0 d6 ([])) rfl (by cbv) ⟨0, [], 0, rfl, ?_, rfl⟩ (fun σ m hI => ?_)
 ·
  exact ⟨rfl, Nat.zero_le _, rfl⟩
 obtain ⟨i, R, n, rfl, ⟨hn, hi, hR⟩, rfl⟩ := hI
 refine gs (gx hA 5 ?_)
 refine go_cond rfl (fun c3 => ?_) (fun c3 => ?_)
 ·
  have ec3 : n < (A.rlen a8) := lss_t hA c3
  refine gk (gs ?_)
  refine go_block ?_
  have m7 : (0 : Int) ≤ n := by
   omega
  have m4 : (Int.toNat n) < List.length d5 := by
   omega
  obtain ⟨x4, hx4⟩ : ∃ x, (d5)[(Int.toNat n)]? = some x := ⟨_, List.getElem?_eq_getElem m4⟩
  have m6 := List.mem_of_getElem? hx4
  obtain ⟨d1, e0, d7, d2, ⟨b1, b4, f7, f3⟩, ⟨b0, b3, f0, f2⟩, ⟨b6, b8, b9, b5, f5⟩⟩ := x4
  obtain ⟨d3, g7⟩ := nm (f7.map eString)
  have l7 := rlen_map hA g7
  obtain ⟨c6, g2⟩ := nm (f3.map eString)
  have l0 := rlen_map hA g2
  obtain ⟨c5, f9⟩ := nm (f0.map eMail)
  have k8 := rlen_map hA f9
  obtain ⟨c7, g3⟩ := nm (f2.map eBool)
  have l1 := rlen_map hA g3
  obtain ⟨c9, g4⟩ := nm (f5.map eInt)
  have l6 := rlen_map hA g4
  have m5 : a8[(Int.toNat n)]? = some [.ii d1, .str e0, .str d7, .bool d2, .ii b1, .str b4, .sl 1 d3, .sl 1 c6, .ii b0, .str b3, .sl 3 c5, .sl 1 c7, .ii b6, .str b8, .str b9, .ii b5, .sl 1 c9] := by
   subst g7 g2 f9 g3 g4; exact map_at eSession e7 hx4
  have k3 := hx4
  rw [hn] at k3
  have k3 : (d5)[i]? = some (⟨d1, e0, d7, d2, ⟨b1, b4, f7, f3⟩, ⟨b0, b3, f0, f2⟩, ⟨b6, b8, b9, b5, f5⟩⟩ : GSession) := k3
  have zS : ∀ k ∈ zsSession (⟨d1, e0, d7, d2, ⟨b1, b4, f7, f3⟩, ⟨b0, b3, f0, f2⟩, ⟨b6, b8, b9, b5, f5⟩⟩ : GSession), k ≤ 1048576 := fun k hk => g8 k (List.mem_cons_of_mem _ (List.mem_flatMap.2 ⟨_, m6, hk⟩))
  obtain ⟨e6, e2, e1, e4, e5, i8, i1, i0, i2, i5, hc6⟩ : ∃ (e6 : RR) (e2 : RR) (e1 : RR) (e4 : RR) (e5 : RR), e6 = List.map eString f7 ∧ e2 = List.map eString f3 ∧ e1 = List.map eoMail f0 ∧ e4 = List.map eBool f2 ∧ e5 = List.map eInt f5 ∧ Real Tryz.prog 50 [.agg [.ii d1, .str e0, .str d7, .bool d2, .ii b1, .str b4, .sl 1 d3, .sl 1 c6, .ii b0, .str b3, .sl 3 c5, .sl 1 c7, .ii b6, .str b8, .str b9, .ii b5, .sl 1 c9]] (.agg [.ii d1, .str e0, .str d7, .bool d2, .ii b1, .str b4, .ow 1 e6, .ow 1 e2, .ii b0, .str b3, .ow 3 e1, .ow 1 e4, .ii b6, .str b8, .str b9, .ii b5, .ow 1 e5]) := ⟨_, _, _, _, _, rfl, rfl, rfl, rfl, rfl, by subst g7 g2 f9 g3 g4; exact r_spec_l22Copy A hA (⟨d1, e0, d7, d2, ⟨b1, b4, f7, f3⟩, ⟨b0, b3, f0, f2⟩, ⟨b6, b8, b9, b5, f5⟩⟩ : GSession) (by assumption)⟩
  have l5 := rlen_map hA i8
  have k7 := rlen_map hA i1
  have k5 := rlen_map hA i0
  have k9 := rlen_map hA i2
  have l3 := rlen_map hA i5
  obtain ⟨r7, hr7⟩ := nm (R ++ [[.ii d1, .str e0, .str d7, .bool d2, .ii b1, .str b4, .ow 1 e6, .ow 1 e2, .ii b0, .str b3, .ow 3 e1, .ow 1 e4, .ii b6, .str b8, .str b9, .ii b5, .ow 1 e5]] : RR)
  have er7 : r7 = List.map eoSession ((d5.take i) ++ ([(⟨d1, e0, d7, d2, ⟨b1, b4, f7, f3⟩, ⟨b0, b3, f0, f2⟩, ⟨b6, b8, b9, b5, f5⟩⟩ : GSession)])) := by rw [hr7]; exact app_eq hR (by simp only [i8, i1, i0, i2, i5]; rfl)
  have lr7 := rlen_map hA er7
  refine go_drawE [0, 1, 2, 3, 4, 5, 6, 7, 8, 9, 10, 11] (by cbv) rfl rfl ({ sl := [.bad, .pt 1 0 0, .pt 2 0 0, .pt 3 0 0, .ii n, .bad, .bad, .bad, .bad, .bad, .bad, .bad, .bad, .ii n, .pt 1 0 9, .sl 17 a8, .ii (A.rlen a8), .bool (A.cmp .lss n (A.rlen a8)), .bad, .bad, .pt 3 0 2, .bad, .pt 1 0 9, .sl 17 a8, .ii n, .rd [.ii d1, .str e0, .str d7, .bool d2, .ii b1, .str b4, .sl 1 d3, .sl 1 c6, .ii b0, .str b3, .sl 3 c5, .sl 1 c7, .ii b6, .str b8, .str b9, .ii b5, .sl 1 c9], .agg [.ii d1, .str e0, .str d7, .bool d2, .ii b1, .str b4, .sl 1 d3, .sl 1 c6, .ii b0, .str b3, .sl 3 c5, .sl 1 c7, .ii b6, .str b8, .str b9, .ii b5, .sl 1 c9], .agg [.ii d1, .str e0, .str d7, .bool d2, .ii b1, .str b4, .bad, .bad, .ii b0, .str b3, .bad, .bad, .ii b6, .str b8, .str b9, .ii b5, .bad], .bad, .own 7003, .pt 3 0 2, .bad], bl := [(1, ⟨.var, 10, [[.sl 1 a1, .sl 2 a2, .ii a6, .sl 4 a7, .ii a3, .ii a4, .ii a5, .ii a0, .sl 1 a9, .sl 17 a8]]⟩), (2, ⟨.var, 3, [[.zc, .ii 0, .zc]]⟩), (3, ⟨.var, 3, [[.own 7, .ii a0, .own 7003]]⟩), (7, ⟨.arr, 5, d6⟩), (7003, ⟨.arr, 17, r7⟩)] } : St) (fun dR dK dhR dhF => ?_) ?_
  ·
   have k4 : ∀ (dn : Nat), cntF [true, true, true, true, true, true, true, true, true, true, true, true] = dn → dwp T ⟨Real Tryz.prog, RealM Tryz.prog, RealC Tryz.prog⟩ dR dK dn [true, true, true, true, true, true, true, true, true, true, true, true] ({ sl := [.bad, .pt 1 0 0, .pt 2 0 0, .pt 3 0 0, .ii n, .bad, .bad, .bad, .bad, .bad, .bad, .bad, .bad, .ii n, .pt 1 0 9, .sl 17 a8, .ii (A.rlen a8), .bool (A.cmp .lss n (A.rlen a8)), .bad, .bad, .pt 3 0 2, .bad, .pt 1 0 9, .sl 17 a8, .ii n, .rd [.ii d1, .str e0, .str d7, .bool d2, .ii b1, .str b4, .sl 1 d3, .sl 1 c6, .ii b0, .str b3, .sl 3 c5, .sl 1 c7, .ii b6, .str b8, .str b9, .ii b5, .sl 1 c9], .agg [.ii d1, .str e0, .str d7, .bool d2, .ii b1, .str b4, .sl 1 d3, .sl 1 c6, .ii b0, .str b3, .sl 3 c5, .sl 1 c7, .ii b6, .str b8, .str b9, .ii b5, .sl 1 c9], .agg [.ii d1, .str e0, .str d7, .bool d2, .ii b1, .str b4, .bad, .bad, .ii b0, .str b3, .bad, .bad, .ii b6, .str b8, .str b9, .ii b5, .bad], .bad, .own 7003, .pt 3 0 2, .bad], bl := [(1, ⟨.var, 10, [[.sl 1 a1, .sl 2 a2, .ii a6, .sl 4 a7, .ii a3, .ii a4, .ii a5, .ii a0, .sl 1 a9, .sl 17 a8]]⟩), (2, ⟨.var, 3, [[.zc, .ii 0, .zc]]⟩), (3, ⟨.var, 3, [[.own 7, .ii a0, .own 7003]]⟩), (7, ⟨.arr, 5, d6⟩), (7003, ⟨.arr, 17, r7⟩)] } : St) := by
    intro dn
    induction dn with
    | zero =>
     intro  dhn
     exact dwp_last dhF
    | succ dn ih =>
     intro  dhn
     subst dhR
     refine dwp_next (is := [0, 1, 2, 3, 4, 5, 6, 7, 8, 9, 10, 11]) rfl ?_
     refine allRdy_none rfl ?_
     refine allRdy_none rfl ?_
     refine allRdy_none rfl ?_
     refine allRdy_none rfl ?_
     refine allRdy_none rfl ?_
     refine allRdy_none rfl ?_
     refine allRdy_none rfl ?_
     refine allRdy_none rfl ?_
     refine allRdy_none rfl ?_
     refine allRdy_none rfl ?_
     refine allRdy_none rfl ?_
     refine allRdy_none rfl ?_
     exact trivial
   have l8 : ∀ (dn : Nat) {g0 : Bool} {j1 : PV}, (g0 = true → j1 = .pt 3 0 2) → cntF [true, true, true, true, true, true, true, true, true, true, g0, false] = dn → dwp T ⟨Real Tryz.prog, RealM Tryz.prog, RealC Tryz.prog⟩ dR dK dn [true, true, true, true, true, true, true, true, true, true, g0, false] ({ sl := [.bad, .pt 1 0 0, .pt 2 0 0, .pt 3 0 0, .ii n, .bad, .bad, .bad, .bad, .bad, .bad, .bad, .bad, .ii n, .pt 1 0 9, .sl 17 a8, .ii (A.rlen a8), .bool (A.cmp .lss n (A.rlen a8)), .bad, .bad, .pt 3 0 2, .bad, .pt 1 0 9, .sl 17 a8, .ii n, .rd [.ii d1, .str e0, .str d7, .bool d2, .ii b1, .str b4, .sl 1 d3, .sl 1 c6, .ii b0, .str b3, .sl 3 c5, .sl 1 c7, .ii b6, .str b8, .str b9, .ii b5, .sl 1 c9], .agg [.ii d1, .str e0, .str d7, .bool d2, .ii b1, .str b4, .sl 1 d3, .sl 1 c6, .ii b0, .str b3, .sl 3 c5, .sl 1 c7, .ii b6, .str b8, .str b9, .ii b5, .sl 1 c9], .agg [.ii d1, .str e0, .str d7, .bool d2, .ii b1, .str b4, .bad, .bad, .ii b0, .str b3, .bad, .bad, .ii b6, .str b8, .str b9, .ii b5, .bad], .bad, .own 7003, j1, .bad], bl := [(1, ⟨.var, 10, [[.sl 1 a1, .sl 2 a2, .ii a6, .sl 4 a7, .ii a3, .ii a4, .ii a5, .ii a0, .sl 1 a9, .sl 17 a8]]⟩), (2, ⟨.var, 3, [[.zc, .ii 0, .zc]]⟩), (3, ⟨.var, 3, [[.own 7, .ii a0, .bad]]⟩), (7, ⟨.arr, 5, d6⟩), (7003, ⟨.arr, 17, r7⟩)] } : St) := by
    intro dn
    induction dn with
    | zero =>
     intro g0 j1 i9 dhn
     exact absurd (show false = true from cntF_zero  _ dhn 11 (by show 11 < 12; decide)) (by decide)
    | succ dn ih =>
     intro g0 j1 i9 dhn
     subst dhR
     refine dwp_next (is := [0, 1, 2, 3, 4, 5, 6, 7, 8, 9, 10, 11]) rfl ?_
     refine allRdy_none rfl ?_
     refine allRdy_none rfl ?_
     refine allRdy_none rfl ?_
     refine allRdy_none rfl ?_
     refine allRdy_none rfl ?_
     refine allRdy_none rfl ?_
     refine allRdy_none rfl ?_
     refine allRdy_none rfl ?_
     refine allRdy_none rfl ?_
     refine allRdy_none rfl ?_
     refine allRdy_q rfl rfl (fun h0 h1 => ?_) ?_
     ·
      cases (show g0 = false from h0)
      refine rn hA 1 ?_
      refine ow_ ?_
      exact ih (fun _ => rfl) (cnt_dec h0 (by show 10 < 12; decide) dhn)
     refine allRdy_q rfl rfl (fun h0 h1 => ?_) ?_
     ·
      obtain rfl : g0 = true := h1.1
      obtain rfl := i9 rfl
      refine rn hA 1 ?_
      refine ow_ ?_
      exact k4 dn (cnt_dec h0 (by show 11 < 12; decide) dhn)
     exact trivial
   have m3 : ∀ (dn : Nat) {dB0 dB1 : Bool} {dQ0 dQ1 : PV}, (dB0 = true → dQ0 = .pt 3 0 2) → (dB1 = true → dQ1 = .own 7003) → (dB1 = true → dB0 = true) → cntF [dB0, dB1, true, true, true, true, true, true, true, false, false, false] = dn → dwp T ⟨Real Tryz.prog, RealM Tryz.prog, RealC Tryz.prog⟩ dR dK dn [dB0, dB1, true, true, true, true, true, true, true, false, false, false] ({ sl := [.bad, .pt 1 0 0, .pt 2 0 0, .pt 3 0 0, .ii n, .bad, .bad, .bad, .bad, .bad, .bad, .bad, .bad, .ii n, .pt 1 0 9, .sl 17 a8, .ii (A.rlen a8), .bool (A.cmp .lss n (A.rlen a8)), .bad, .bad, dQ0, dQ1, .pt 1 0 9, .sl 17 a8, .ii n, .rd [.ii d1, .str e0, .str d7, .bool d2, .ii b1, .str b4, .sl 1 d3, .sl 1 c6, .ii b0, .str b3, .sl 3 c5, .sl 1 c7, .ii b6, .str b8, .str b9, .ii b5, .sl 1 c9], .agg [.ii d1, .str e0, .str d7, .bool d2, .ii b1, .str b4, .sl 1 d3, .sl 1 c6, .ii b0, .str b3, .sl 3 c5, .sl 1 c7, .ii b6, .str b8, .str b9, .ii b5, .sl 1 c9], .agg [.ii d1, .str e0, .str d7, .bool d2, .ii b1, .str b4, .own 6027, .own 7027, .ii b0, .str b3, .own 10027, .own 11027, .ii b6, .str b8, .str b9, .ii b5, .own 16027], .own 28, .bad, .bad, .bad], bl := [(1, ⟨.var, 10, [[.sl 1 a1, .sl 2 a2, .ii a6, .sl 4 a7, .ii a3, .ii a4, .ii a5, .ii a0, .sl 1 a9, .sl 17 a8]]⟩), (2, ⟨.var, 3, [[.zc, .ii 0, .zc]]⟩), (3, ⟨.var, 3, [[.own 7, .ii a0, .own 7003]]⟩), (7, ⟨.arr, 5, d6⟩), (28, ⟨.lit, 17, [[.ii d1, .str e0, .str d7, .bool d2, .ii b1, .str b4, .own 6027, .own 7027, .ii b0, .str b3, .own 10027, .own 11027, .ii b6, .str b8, .str b9, .ii b5, .own 16027]]⟩), (6027, ⟨.arr, 1, e6⟩), (7003, ⟨.arr, 17, R⟩), (7027, ⟨.arr, 1, e2⟩), (10027, ⟨.arr, 3, e1⟩), (11027, ⟨.arr, 1, e4⟩), (16027, ⟨.arr, 1, e5⟩)] } : St) := by
    intro dn
    induction dn with
    | zero =>
     intro dB0 dB1 dQ0 dQ1 dh0 dh1 d4 dhn
     exact absurd (show false = true from cntF_zero  _ dhn 9 (by show 9 < 12; decide)) (by decide)
    | succ dn ih =>
     intro dB0 dB1 dQ0 dQ1 dh0 dh1 d4 dhn
     subst dhR
     refine dwp_next (is := [0, 1, 2, 3, 4, 5, 6, 7, 8, 9, 10, 11]) rfl ?_
     refine allRdy_q rfl rfl (fun h0 h1 => ?_) ?_
     ·
      cases (show dB0 = false from h0)
      refine rn hA 1 ?_
      refine ow_ ?_
      exact ih (fun _ => rfl) dh1 (fun _ => rfl) (cnt_dec h0 (by show 0 < 12; decide) dhn)
     refine allRdy_q rfl rfl (fun h0 h1 => ?_) ?_
     ·
      cases (show dB1 = false from h0)
      obtain rfl : dB0 = true := h1.1
      obtain rfl := dh0 rfl
      refine rn hA 1 ?_
      refine ow_ ?_
      exact ih (fun _ => rfl) (fun _ => rfl) (fun _ => rfl) (cnt_dec h0 (by show 1 < 12; decide) dhn)
     refine allRdy_none rfl ?_
     refine allRdy_none rfl ?_
     refine allRdy_none rfl ?_
     refine allRdy_none rfl ?_
     refine allRdy_none rfl ?_
     refine allRdy_none rfl ?_
     refine allRdy_none rfl ?_
     refine allRdy_q rfl rfl (fun h0 h1 => ?_) ?_
     ·
      obtain rfl : dB1 = true := h1.1
      obtain rfl := dh1 rfl
      obtain rfl : dB0 = true := d4 rfl
      obtain rfl := dh0 rfl
      refine ops_step rfl rfl (app_own rfl rfl rfl rfl rfl rfl rfl rfl hr7 (by cbv) (by cbv) (by cbv) rfl (by
       show (List.length R + List.length ([[.ii d1, .str e0, .str d7, .bool d2, .ii b1, .str b4, .ow 1 e6, .ow 1 e2, .ii b0, .str b3, .ow 3 e1, .ow 1 e4, .ii b6, .str b8, .str b9, .ii b5, .ow 1 e5]])) * _ ≤ _
       show (List.length R + 1) * 264 ≤ _
       rw [hR, List.length_map, List.length_take]
       omega) (by decide) (by decide)) ?_
      refine ow_ ?_
      exact l8 dn (fun h => absurd h (by decide)) (cnt_dec h0 (by show 9 < 12; decide) dhn)
     refine allRdy_q rfl rfl (fun _ h1 => absurd (show false = true from h1.2.2.2.2.2.2.2.2.2.1) (by decide)) ?_
     refine allRdy_q rfl rfl (fun _ h1 => absurd (show false = true from h1.1) (by decide)) ?_
     exact trivial
   have H_7 : ∀ (dn : Nat) {dB0 dB1 : Bool} {dQ0 dQ1 : PV}, (dB0 = true → dQ0 = .pt 3 0 2) → (dB1 = true → dQ1 = .own 7003) → (dB1 = true → dB0 = true) → cntF [dB0, dB1, true, true, true, true, true, true, false, false, false, false] = dn → dwp T ⟨Real Tryz.prog, RealM Tryz.prog, RealC Tryz.prog⟩ dR dK dn [dB0, dB1, true, true, true, true, true, true, false, false, false, false] ({ sl := [.bad, .pt 1 0 0, .pt 2 0 0, .pt 3 0 0, .ii n, .bad, .bad, .bad, .bad, .bad, .bad, .bad, .bad, .ii n, .pt 1 0 9, .sl 17 a8, .ii (A.rlen a8), .bool (A.cmp .lss n (A.rlen a8)), .bad, .bad, dQ0, dQ1, .pt 1 0 9, .sl 17 a8, .ii n, .rd [.ii d1, .str e0, .str d7, .bool d2, .ii b1, .str b4, .sl 1 d3, .sl 1 c6, .ii b0, .str b3, .sl 3 c5, .sl 1 c7, .ii b6, .str b8, .str b9, .ii b5, .sl 1 c9], .agg [.ii d1, .str e0, .str d7, .bool d2, .ii b1, .str b4, .sl 1 d3, .sl 1 c6, .ii b0, .str b3, .sl 3 c5, .sl 1 c7, .ii b6, .str b8, .str b9, .ii b5, .sl 1 c9], .agg [.ii d1, .str e0, .str d7, .bool d2, .ii b1, .str b4, .own 6027, .own 7027, .ii b0, .str b3, .own 10027, .own 11027, .ii b6, .str b8, .str b9, .ii b5, .own 16027], .bad, .bad, .bad, .bad], bl := [(1, ⟨.var, 10, [[.sl 1 a1, .sl 2 a2, .ii a6, .sl 4 a7, .ii a3, .ii a4, .ii a5, .ii a0, .sl 1 a9, .sl 17 a8]]⟩), (2, ⟨.var, 3, [[.zc, .ii 0, .zc]]⟩), (3, ⟨.var, 3, [[.own 7, .ii a0, .own 7003]]⟩), (7, ⟨.arr, 5, d6⟩), (6027, ⟨.arr, 1, e6⟩), (7003, ⟨.arr, 17, R⟩), (7027, ⟨.arr, 1, e2⟩), (10027, ⟨.arr, 3, e1⟩), (11027, ⟨.arr, 1, e4⟩), (16027, ⟨.arr, 1, e5⟩)] } : St) := by
    intro dn
    induction dn with
    | zero =>
     intro dB0 dB1 dQ0 dQ1 dh0 dh1 d4 dhn
     exact absurd (show false = true from cntF_zero  _ dhn 8 (by show 8 < 12; decide)) (by decide)
    | succ dn ih =>
     intro dB0 dB1 dQ0 dQ1 dh0 dh1 d4 dhn
     subst dhR
     refine dwp_next (is := [0, 1, 2, 3, 4, 5, 6, 7, 8, 9, 10, 11]) rfl ?_
     refine allRdy_q rfl rfl (fun h0 h1 => ?_) ?_
     ·
      cases (show dB0 = false from h0)
      refine rn hA 1 ?_
      refine ow_ ?_
      exact ih (fun _ => rfl) dh1 (fun _ => rfl) (cnt_dec h0 (by show 0 < 12; decide) dhn)
     refine allRdy_q rfl rfl (fun h0 h1 => ?_) ?_
     ·
      cases (show dB1 = false from h0)
      obtain rfl : dB0 = true := h1.1
      obtain rfl := dh0 rfl
      refine rn hA 1 ?_
      refine ow_ ?_
      exact ih (fun _ => rfl) (fun _ => rfl) (fun _ => rfl) (cnt_dec h0 (by show 1 < 12; decide) dhn)
     refine allRdy_none rfl ?_
     refine allRdy_none rfl ?_
     refine allRdy_none rfl ?_
     refine allRdy_none rfl ?_
     refine allRdy_none rfl ?_
     refine allRdy_none rfl ?_
     refine allRdy_q rfl rfl (fun h0 h1 => ?_) ?_
     ·
      refine rn hA 1 ?_
      refine ops_done (dwp_to [.up 16027, .up 11027, .up 10027, .up 7027, .up 7003, .up 6027, .up 28, .up 7, .up 3, .up 2, .up 1] (by cbv) rfl ?_)
      exact m3 dn dh0 dh1 d4 (cnt_dec h0 (by show 8 < 12; decide) dhn)
     refine allRdy_q rfl rfl (fun _ h1 => absurd (show false = true from h1.2.1) (by decide)) ?_
     refine allRdy_q rfl rfl (fun _ h1 => absurd (show false = true from h1.2.2.2.2.2.2.2.2.1) (by decide)) ?_
     refine allRdy_q rfl rfl (fun _ h1 => absurd (show false = true from h1.1) (by decide)) ?_
     exact trivial
   have H_ : ∀ (dn : Nat) {dB0 dB1 dB2 dB3 dB4 dB5 dB6 : Bool} {dQ0 dQ1 dQ2 dQ3 dQ4 dQ5 dQ6 : PV}, (dB0 = true → dQ0 = .pt 3 0 2) → (dB1 = true → dQ1 = .own 7003) → (dB2 = true → dQ2 = .pt 1 0 9) → (dB3 = true → dQ3 = .sl 17 a8) → (dB4 = true → dQ4 = .ii n) → (dB5 = true → dQ5 = .rd [.ii d1, .str e0, .str d7, .bool d2, .ii b1, .str b4, .sl 1 d3, .sl 1 c6, .ii b0, .str b3, .sl 3 c5, .sl 1 c7, .ii b6, .str b8, .str b9, .ii b5, .sl 1 c9]) → (dB6 = true → dQ6 = .agg [.ii d1, .str e0, .str d7, .bool d2, .ii b1, .str b4, .sl 1 d3, .sl 1 c6, .ii b0, .str b3, .sl 3 c5, .sl 1 c7, .ii b6, .str b8, .str b9, .ii b5, .sl 1 c9]) → (dB1 = true → dB0 = true) → (dB3 = true → dB2 = true) → (dB5 = true → dB3 = true) → (dB5 = true → dB4 = true) → (dB6 = true → dB5 = true) → cntF [dB0, dB1, dB2, dB3, dB4, dB5, dB6, false, false, false, false, false] = dn → dwp T ⟨Real Tryz.prog, RealM Tryz.prog, RealC Tryz.prog⟩ dR dK dn [dB0, dB1, dB2, dB3, dB4, dB5, dB6, false, false, false, false, false] ({ sl := [.bad, .pt 1 0 0, .pt 2 0 0, .pt 3 0 0, .ii n, .bad, .bad, .bad, .bad, .bad, .bad, .bad, .bad, .ii n, .pt 1 0 9, .sl 17 a8, .ii (A.rlen a8), .bool (A.cmp .lss n (A.rlen a8)), .bad, .bad, dQ0, dQ1, dQ2, dQ3, dQ4, dQ5, dQ6, .bad, .bad, .bad, .bad, .bad], bl := [(1, ⟨.var, 10, [[.sl 1 a1, .sl 2 a2, .ii a6, .sl 4 a7, .ii a3, .ii a4, .ii a5, .ii a0, .sl 1 a9, .sl 17 a8]]⟩), (2, ⟨.var, 3, [[.zc, .ii 0, .zc]]⟩), (3, ⟨.var, 3, [[.own 7, .ii a0, .own 7003]]⟩), (7, ⟨.arr, 5, d6⟩), (7003, ⟨.arr, 17, R⟩)] } : St) := by
    intro dn
    induction dn with
    | zero =>
     intro dB0 dB1 dB2 dB3 dB4 dB5 dB6 dQ0 dQ1 dQ2 dQ3 dQ4 dQ5 dQ6 dh0 dh1 dh2 dh3 dh4 dh5 dh6 d4 j3 j2 c2 c1 dhn
     exact absurd (show false = true from cntF_zero  _ dhn 7 (by show 7 < 12; decide)) (by decide)
    | succ dn ih =>
     intro dB0 dB1 dB2 dB3 dB4 dB5 dB6 dQ0 dQ1 dQ2 dQ3 dQ4 dQ5 dQ6 dh0 dh1 dh2 dh3 dh4 dh5 dh6 d4 j3 j2 c2 c1 dhn
     subst dhR
     refine dwp_next (is := [0, 1, 2, 3, 4, 5, 6, 7, 8, 9, 10, 11]) rfl ?_
     refine allRdy_q rfl rfl (fun h0 h1 => ?_) ?_
     ·
      cases (show dB0 = false from h0)
      refine rn hA 1 ?_
      refine ow_ ?_
      exact ih (fun _ => rfl) dh1 dh2 dh3 dh4 dh5 dh6 (fun _ => rfl) j3 j2 c2 c1 (cnt_dec h0 (by show 0 < 12; decide) dhn)
     refine allRdy_q rfl rfl (fun h0 h1 => ?_) ?_
     ·
      cases (show dB1 = false from h0)
      obtain rfl : dB0 = true := h1.1
      obtain rfl := dh0 rfl
      refine rn hA 1 ?_
      refine ow_ ?_
      exact ih (fun _ => rfl) (fun _ => rfl) dh2 dh3 dh4 dh5 dh6 (fun _ => rfl) j3 j2 c2 c1 (cnt_dec h0 (by show 1 < 12; decide) dhn)
     refine allRdy_q rfl rfl (fun h0 h1 => ?_) ?_
     ·
      cases (show dB2 = false from h0)
      refine rn hA 1 ?_
      refine ow_ ?_
      exact ih dh0 dh1 (fun _ => rfl) dh3 dh4 dh5 dh6 d4 (fun _ => rfl) j2 c2 c1 (cnt_dec h0 (by show 2 < 12; decide) dhn)
     refine allRdy_q rfl rfl (fun h0 h1 => ?_) ?_
     ·
      cases (show dB3 = false from h0)
      obtain rfl : dB2 = true := h1.1
      obtain rfl := dh2 rfl
      refine rn hA 1 ?_
      refine ow_ ?_
      exact ih dh0 dh1 (fun _ => rfl) (fun _ => rfl) dh4 dh5 dh6 d4 (fun _ => rfl) (fun _ => rfl) c2 c1 (cnt_dec h0 (by show 3 < 12; decide) dhn)
     refine allRdy_q rfl rfl (fun h0 h1 => ?_) ?_
     ·
      cases (show dB4 = false from h0)
      refine rn hA 1 ?_
      refine ow_ ?_
      exact ih dh0 dh1 dh2 dh3 (fun _ => rfl) dh5 dh6 d4 j3 j2 (fun _ => rfl) c1 (cnt_dec h0 (by show 4 < 12; decide) dhn)
     refine allRdy_q rfl rfl (fun h0 h1 => ?_) ?_
     ·
      cases (show dB5 = false from h0)
      obtain rfl : dB3 = true := h1.1
      obtain rfl := dh3 rfl
      obtain rfl : dB2 = true := j3 rfl
      obtain rfl := dh2 rfl
      obtain rfl : dB4 = true := h1.2.1
      obtain rfl := dh4 rfl
      refine ops_step rfl rfl (idx_sl rfl rfl rfl rfl rfl m7 rfl m5) ?_
      refine ow_ ?_
      exact ih dh0 dh1 (fun _ => rfl) (fun _ => rfl) (fun _ => rfl) (fun _ => rfl) dh6 d4 (fun _ => rfl) (fun _ => rfl) (fun _ => rfl) (fun _ => rfl) (cnt_dec h0 (by show 5 < 12; decide) dhn)
     refine allRdy_q rfl rfl (fun h0 h1 => ?_) ?_
     ·
      cases (show dB6 = false from h0)
      obtain rfl : dB5 = true := h1.1
      obtain rfl := dh5 rfl
      obtain rfl : dB3 = true := j2 rfl
      obtain rfl := dh3 rfl
      obtain rfl : dB2 = true := j3 rfl
      obtain rfl := dh2 rfl
      obtain rfl : dB4 = true := c2 rfl
      obtain rfl := dh4 rfl
      refine rn hA 1 ?_
      refine ow_ ?_
      exact ih dh0 dh1 (fun _ => rfl) (fun _ => rfl) (fun _ => rfl) (fun _ => rfl) (fun _ => rfl) d4 (fun _ => rfl) (fun _ => rfl) (fun _ => rfl) (fun _ => rfl) (cnt_dec h0 (by show 6 < 12; decide) dhn)
     refine allRdy_q rfl rfl (fun h0 h1 => ?_) ?_
     ·
      obtain rfl : dB6 = true := h1.1
      obtain rfl := dh6 rfl
      obtain rfl : dB5 = true := c1 rfl
      obtain rfl := dh5 rfl
      obtain rfl : dB3 = true := j2 rfl
      obtain rfl := dh3 rfl
      obtain rfl : dB2 = true := j3 rfl
      obtain rfl := dh2 rfl
      obtain rfl : dB4 = true := c2 rfl
      obtain rfl := dh4 rfl
      refine ops_callV rfl rfl (by cbv) (by cbv) hc6 (.inr rfl) (by cbv) ?_
      refine ops_done (dwp_to [.up 16027, .up 11027, .up 10027, .up 7027, .up 7003, .up 6027, .up 7, .up 3, .up 2, .up 1] (by cbv) rfl ?_)
      exact H_7 dn dh0 dh1 d4 (cnt_dec h0 (by show 7 < 12; decide) dhn)
     refine allRdy_q rfl rfl (fun _ h1 => absurd (show false = true from h1.1) (by decide)) ?_
     refine allRdy_q rfl rfl (fun _ h1 => absurd (show false = true from h1.2.1) (by decide)) ?_
     refine allRdy_q rfl rfl (fun _ h1 => absurd (show false = true from h1.2.2.2.2.2.2.2.1) (by decide)) ?_
     refine allRdy_q rfl rfl (fun _ h1 => absurd (show false = true from h1.1) (by decide)) ?_
     exact trivial
   exact dwp_to [] (by cbv) rfl (@H_ 12 false false false false false false false (.bad) (.bad) (.bad) (.bad) (.bad) (.bad) (.bad) (fun h => absurd h (by decide)) (fun h => absurd h (by decide)) (fun h => absurd h (by decide)) (fun h => absurd h (by decide)) (fun h => absurd h (by decide)) (fun h => absurd h (by decide)) (fun h => absurd h (by decide)) (fun h => absurd h (by decide)) (fun h => absurd h (by decide)) (fun h => absurd h (by decide)) (fun h => absurd h (by decide)) (fun h => absurd h (by decide)) rfl)
  refine gy hA 3 ?_
  refine ⟨(S21_1 (A.num .add .i64 n 1) a1 a2 a6 a7 a3 a4 a5 a0 a9 a8 0 d6 r7), List.length d5 - (i + 1), ?_, by cbv, i + 1, r7, (A.num .add .i64 n 1), rfl, ?_, rfl⟩
  ·
   omega
  refine ⟨by rw [add_i64 hA (by omega) (by omega)]; omega, by omega, ?_⟩
  rw [List.take_add_one, k3]
  exact er7
 have ec3 : (A.rlen a8) ≤ n := lss_f hA c3
 refine go_exit ⟨fun _ => ?_, fun h => absurd rfl h⟩
 refine gx hA 2 ?_
 refine go_ret ⟨_, by cbv, ?_⟩
 show _ = (PV.agg [.ow 5 d6, .ii a0, .ow 17 R])
 simp only [j7, hR, List.take_of_length_le (show List.length d5 ≤ i by omega), List.nil_append]
 rfl
end Go.Av

/- Walks: Alike. -/
import Derived.Test.YtjbokkoiicoahaaGreatK1
namespace Go.Av
open Go Go.Proofs
set_option maxRecDepth 100000
set_option maxHeartbeats 4000000
set_option linter.unusedVariables false
set_option linter.unusedSimpArgs false
def alikeB (p : GPlain) (v : GServer) : Bool := (eqFunc sbx p.State.Boxes (stateS (itemsL v.Store.Log.Used)).Boxes && decide (p.NextValid = v.Store.Log.NextValid)) && eqFunc stk p.Sessions v.Sessions
theorem r_impl_Alike (A : Alg) (hA : A = std) (p : GPlain) (v : GServer) (hp : ∀ q ∈ zsPlain p, q ≤ 1048576) (hz : ∀ q ∈ zsServer v, q ≤ 1048576) (hil : (itemsL v.Store.Log.Used).length ≤ 1048576) : Real Tryz.prog 19 [.agg (ePlain p), .agg (eServer v)] (.bool (alikeB p v)) := by
 obtain ⟨⟨a4⟩, b1, a6⟩ := p
 obtain ⟨d2, c2⟩ := nm (a4.map eBox)
 have e5 := rlen_map hA c2
 obtain ⟨d5, c7⟩ := nm (a6.map eSession)
 have f1 := rlen_map hA c7
 obtain ⟨⟨⟨⟨b5, b8⟩, c0, a3, b2, b3, b7, a0⟩, d4⟩, a7⟩ := v
 obtain ⟨b0, a5⟩ := nm (b5.map eString)
 have d8 := rlen_map hA a5
 obtain ⟨b6, a8⟩ := nm (b8.map eWrite)
 have d9 := rlen_map hA a8
 obtain ⟨c4, b4⟩ := nm (a3.map eSeg)
 have e1 := rlen_map hA b4
 obtain ⟨d1, c1⟩ := nm (d4.map eInt)
 have e6 := rlen_map hA c1
 obtain ⟨d0, b9⟩ := nm (a7.map eSession)
 have f0 := rlen_map hA b9
 refine real_args (args' := [.agg [.sl 5 d2, .ii b1, .sl 17 d5], .agg [.sl 1 b0, .sl 2 b6, .ii c0, .sl 4 c4, .ii b2, .ii b3, .ii b7, .ii a0, .sl 1 d1, .sl 17 d0]]) (by subst c2 c7 a5 a8 b4 c1 b9; rfl) ?_
 have e4 : ∀ q ∈ zsState (⟨a4⟩ : GState), q ≤ 1048576 := fun q hq => hp q (by simp only [zsPlain, List.mem_append]; simp only [hq, true_or, or_true])
 have d3 : ∀ q ∈ zsBoxS a4, q ≤ 1048576 := fun q hq => e4 q (by simp only [zsState, List.mem_append]; simp only [hq, true_or, or_true])
 have e9 : List.length a4 ≤ 1048576 := d3 _ (by simp [zsBoxS])
 have e0 : ∀ q ∈ zsSessionS a6, q ≤ 1048576 := fun q hq => hp q (by simp only [zsPlain, List.mem_append]; simp only [hq, true_or, or_true])
 have f4 : List.length a6 ≤ 1048576 := e0 _ (by simp [zsSessionS])
 have hil : (itemsL a3).length ≤ 1048576 := hil
 have hb : (List.length a4 : Int) ≤ 4611686018427387904 := by omega
 have hbm : ∀ x ∈ a4, (List.length x.Mails : Int) ≤ 4611686018427387904 := fun x hx => by
  have := d3 (List.length x.Mails) (List.mem_cons_of_mem _ (List.mem_flatMap.2 ⟨x, hx, by simp [zsBox, zsMailS]⟩))
  omega
 refine real tyOk Tryz.func19 (by kernel_rfl) (afun_of rfl ?_)
 refine gx hA 3 ?_
 refine gs (gr (rn hA 1 ?_))
 obtain ⟨a9, c8, c9, d7, hc2⟩ : ∃ (a9 : RR) (c8 : RR), a9 = List.map eoBox ((stateS (itemsL a3)).Boxes) ∧ c8 = List.map eoSession a7 ∧ Real Tryz.prog 22 [.agg [.sl 1 b0, .sl 2 b6, .ii c0, .sl 4 c4, .ii b2, .ii b3, .ii b7, .ii a0, .sl 1 d1, .sl 17 d0]] (.agg [.ow 5 a9, .ii a0, .ow 17 c8]) := ⟨_, _, rfl, rfl, by subst a5 a8 b4 c1 b9; exact r_impl_PlainOf A hA (⟨⟨⟨⟨b5, b8⟩, c0, a3, b2, b3, b7, a0⟩, d4⟩, a7⟩ : GServer) (by assumption) hil⟩
 have e3 := rlen_map hA c9
 have e8 := rlen_map hA d7
 refine ops_callV rfl rfl (by cbv) (by cbv) hc2 (.inr rfl) (by cbv) ?_
 refine rz hA 2 ?_
 refine gs (gr (rn hA 4 ?_))
 obtain ⟨e2, f2, hc4⟩ : ∃ (e2 : Bool), e2 = (eqFunc sbx (GState.Boxes (⟨a4⟩ : GState)) (GState.Boxes (⟨(stateS (itemsL a3)).Boxes⟩ : GState))) ∧ Real Tryz.prog 46 [.agg [.sl 5 d2], .agg [.sl 5 (eraseR a9)]] (.bool e2) := ⟨_, rfl, by subst c2 c9; simp only [erR_Box]; exact r_impl_SameState A hA (⟨a4⟩ : GState) (⟨(stateS (itemsL a3)).Boxes⟩ : GState) hb hbm⟩
 refine ops_callV rfl rfl (by cbv) (by cbv) hc4 (.inl trivial) (by cbv) ?_
 refine rn hA 1 ?_
 refine ops_split 13 rfl (fun c5 => ?_) (fun c5 => ?_)
 ·
  refine rn hA 7 ?_
  refine ops_split 20 rfl (fun c6 => ?_) (fun c6 => ?_)
  ·
   have ec6 : b1 = a0 := eql_t hA c6
   refine rn hA 4 ?_
   obtain ⟨d6, f3, hc8⟩ : ∃ (d6 : Bool), d6 = (eqFunc stk a6 a7) ∧ Real Tryz.prog 47 [.sl 17 d5, .sl 17 d0] (.bool d6) := ⟨_, rfl, by subst c7 b9; exact r_impl_SameTalk A hA a6 a7 (by omega)⟩
   refine ops_callG rfl rfl rfl rfl (by cbv) (by cbv) hc8 (.inr rfl) (by cbv) ?_
   refine rz hA 2 ?_
   refine go_ret ⟨_, by cbv, ?_⟩
   show _ = (PV.bool d6)
   refine congrArg PV.bool ?_
   have a1 : eqFunc sbx a4 (stateS (itemsL a3)).Boxes = e2 := f2.symm
   have a2 : eqFunc stk a6 a7 = d6 := f3.symm
   show ((eqFunc sbx a4 (stateS (itemsL a3)).Boxes && decide (b1 = a0)) && eqFunc stk a6 a7) = _
   simp [a1, a2, c5, ec6]
  have ec6 : b1 ≠ a0 := eql_f hA c6
  refine rz hA 7 ?_
  refine go_ret ⟨_, by cbv, ?_⟩
  show _ = (PV.bool false)
  refine congrArg PV.bool ?_
  have a1 : eqFunc sbx a4 (stateS (itemsL a3)).Boxes = e2 := f2.symm
  show ((eqFunc sbx a4 (stateS (itemsL a3)).Boxes && decide (b1 = a0)) && eqFunc stk a6 a7) = _
  simp [a1, c5, ec6, ec6.symm]
 refine rz hA 14 ?_
 refine go_ret ⟨_, by cbv, ?_⟩
 show _ = (PV.bool false)
 refine congrArg PV.bool ?_
 have a1 : eqFunc sbx a4 (stateS (itemsL a3)).Boxes = e2 := f2.symm
 show ((eqFunc sbx a4 (stateS (itemsL a3)).Boxes && decide (b1 = a0)) && eqFunc stk a6 a7) = _
 simp [a1, c5]
theorem r_spec_Alike (A : Alg) (hA : A = std) (p : GPlain) (v : GServer) (hp : ∀ q ∈ zsPlain p, q ≤ 1048576) (hz : ∀ q ∈ zsServer v, q ≤ 1048576) (hil : (itemsL v.Store.Log.Used).length ≤ 1048576) : Real Tryz.prog 17 [.agg (ePlain p), .agg (eServer v)] (.bool (alikeB p v)) := by
 obtain ⟨⟨a4⟩, b1, a6⟩ := p
 obtain ⟨d2, c2⟩ := nm (a4.map eBox)
 have e5 := rlen_map hA c2
 obtain ⟨d5, c7⟩ := nm (a6.map eSession)
 have f1 := rlen_map hA c7
 obtain ⟨⟨⟨⟨b5, b8⟩, c0, a3, b2, b3, b7, a0⟩, d4⟩, a7⟩ := v
 obtain ⟨b0, a5⟩ := nm (b5.map eString)
 have d8 := rlen_map hA a5
 obtain ⟨b6, a8⟩ := nm (b8.map eWrite)
 have d9 := rlen_map hA a8
 obtain ⟨c4, b4⟩ := nm (a3.map eSeg)
 have e1 := rlen_map hA b4
 obtain ⟨d1, c1⟩ := nm (d4.map eInt)
 have e6 := rlen_map hA c1
 obtain ⟨d0, b9⟩ := nm (a7.map eSession)
 have f0 := rlen_map hA b9
 refine real_args (args' := [.agg [.sl 5 d2, .ii b1, .sl 17 d5], .agg [.sl 1 b0, .sl 2 b6, .ii c0, .sl 4 c4, .ii b2, .ii b3, .ii b7, .ii a0, .sl 1 d1, .sl 17 d0]]) (by subst c2 c7 a5 a8 b4 c1 b9; rfl) ?_
 have e4 : ∀ q ∈ zsState (⟨a4⟩ : GState), q ≤ 1048576 := fun q hq => hp q (by simp only [zsPlain, List.mem_append]; simp only [hq, true_or, or_true])
 have d3 : ∀ q ∈ zsBoxS a4, q ≤ 1048576 := fun q hq => e4 q (by simp only [zsState, List.mem_append]; simp only [hq, true_or, or_true])
 have e9 : List.length a4 ≤ 1048576 := d3 _ (by simp [zsBoxS])
 have e0 : ∀ q ∈ zsSessionS a6, q ≤ 1048576 := fun q hq => hp q (by simp only [zsPlain, List.mem_append]; simp only [hq, true_or, or_true])
 have f4 : List.length a6 ≤ 1048576 := e0 _ (by simp [zsSessionS])
 have hil : (itemsL a3).length ≤ 1048576 := hil
 have hb : (List.length a4 : Int) ≤ 4611686018427387904 := by omega
 have hbm : ∀ x ∈ a4, (List.length x.Mails : Int) ≤ 4611686018427387904 := fun x hx => by
  have := d3 (List.length x.Mails) (List.mem_cons_of_mem _ (List.mem_flatMap.2 ⟨x, hx, by simp [zsBox, zsMailS]⟩))
  omega
 refine real tyOk Tryz.func17 (by kernel_rfl) (afun_of rfl ?_)
 refine gx hA 3 ?_
 refine gs (gr (rn hA 1 ?_))
 obtain ⟨a9, c8, c9, d7, hc2⟩ : ∃ (a9 : RR) (c8 : RR), a9 = List.map eoBox ((stateS (itemsL a3)).Boxes) ∧ c8 = List.map eoSession a7 ∧ Real Tryz.prog 21 [.agg [.sl 1 b0, .sl 2 b6, .ii c0, .sl 4 c4, .ii b2, .ii b3, .ii b7, .ii a0, .sl 1 d1, .sl 17 d0]] (.agg [.ow 5 a9, .ii a0, .ow 17 c8]) := ⟨_, _, rfl, rfl, by subst a5 a8 b4 c1 b9; exact r_spec_PlainOf A hA (⟨⟨⟨⟨b5, b8⟩, c0, a3, b2, b3, b7, a0⟩, d4⟩, a7⟩ : GServer) (by assumption) hil⟩
 have e3 := rlen_map hA c9
 have e8 := rlen_map hA d7
 refine ops_callV rfl rfl (by cbv) (by cbv) hc2 (.inr rfl) (by cbv) ?_
 refine rz hA 2 ?_
 refine gs (gr (rn hA 6 ?_))
 refine ops_split 13 rfl (fun c3 => ?_) (fun c3 => ?_)
 ·
  have ec3 : b1 = a0 := eql_t hA c3
  refine rn hA 4 ?_
  obtain ⟨e7, f5, hc5⟩ : ∃ (e7 : Bool), e7 = (eqFunc sbx (GState.Boxes (⟨a4⟩ : GState)) (GState.Boxes (⟨(stateS (itemsL a3)).Boxes⟩ : GState))) ∧ Real Tryz.prog 43 [.agg [.sl 5 d2], .agg [.sl 5 (eraseR a9)]] (.bool e7) := ⟨_, rfl, by subst c2 c9; simp only [erR_Box]; exact r_spec_SameState A hA (⟨a4⟩ : GState) (⟨(stateS (itemsL a3)).Boxes⟩ : GState) hb hbm⟩
  refine ops_callG rfl rfl rfl rfl (by cbv) (by cbv) hc5 (.inl trivial) (by cbv) ?_
  refine rn hA 2 ?_
  refine ops_split 20 rfl (fun c6 => ?_) (fun c6 => ?_)
  ·
   refine rn hA 4 ?_
   obtain ⟨d6, f3, hc8⟩ : ∃ (d6 : Bool), d6 = (eqFunc stk a6 a7) ∧ Real Tryz.prog 44 [.sl 17 d5, .sl 17 d0] (.bool d6) := ⟨_, rfl, by subst c7 b9; exact r_spec_SameTalk A hA a6 a7 (by omega)⟩
   refine ops_callG rfl rfl rfl rfl (by cbv) (by cbv) hc8 (.inr rfl) (by cbv) ?_
   refine rz hA 2 ?_
   refine go_ret ⟨_, by cbv, ?_⟩
   show _ = (PV.bool d6)
   refine congrArg PV.bool ?_
   have a1 : eqFunc sbx a4 (stateS (itemsL a3)).Boxes = e7 := f5.symm
   have a2 : eqFunc stk a6 a7 = d6 := f3.symm
   show ((eqFunc sbx a4 (stateS (itemsL a3)).Boxes && decide (b1 = a0)) && eqFunc stk a6 a7) = _
   simp [a1, a2, ec3, c6]
  refine rz hA 7 ?_
  refine go_ret ⟨_, by cbv, ?_⟩
  show _ = (PV.bool false)
  refine congrArg PV.bool ?_
  have a1 : eqFunc sbx a4 (stateS (itemsL a3)).Boxes = e7 := f5.symm
  show ((eqFunc sbx a4 (stateS (itemsL a3)).Boxes && decide (b1 = a0)) && eqFunc stk a6 a7) = _
  simp [a1, ec3, c6]
 have ec3 : b1 ≠ a0 := eql_f hA c3
 refine rz hA 14 ?_
 refine go_ret ⟨_, by cbv, ?_⟩
 show _ = (PV.bool false)
 refine congrArg PV.bool ?_
 show ((eqFunc sbx a4 (stateS (itemsL a3)).Boxes && decide (b1 = a0)) && eqFunc stk a6 a7) = _
 simp [ec3, ec3.symm]
end Go.Av

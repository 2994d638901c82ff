/- Untidied: the program and the reference answer alike at every list of events, leave what came in as it was, and share nothing. -/
import Derived.Test.YtjbokkoiicoahaaU4
import Derived.Test.YtjbokkoiicoahaaRows
import Derived.ProofKit
namespace Go.Proofs.Ytjbokkoiicoahaa
open Go.ChangeShapes Go.WideShapes Go.ChangeAt Go.RowKit Go.Av

theorem Try.own : ownKnob Try.prog.godebug = none := by kernel_rfl
theorem Try.laidOut : laidOutB Try.prog = true := by kernel_rfl

def shEvent : Sh := .struct (.cons 3 (.int .i64) (.cons 3 (.int .i64) (.cons 9 .str (.cons 58 (.slice 3 (.int .i64)) .nil))))
theorem of_IntS (c : List PV) (h : (Sh.slice 3 (.int .i64)).Is c) : ∃ xs, c = [.sl 1 (List.map eInt xs)] ∧ ∀ k ∈ zsIntS xs, (k : Int) ≤ 9223372036854775807 := by
  obtain ⟨rows, rfl, hl, hrows⟩ := h
  obtain ⟨xs, rfl, hp⟩ := rows_of eInt (fun _ => True) (fun r h => by obtain ⟨n, rfl, _⟩ := h; exact ⟨n, rfl, trivial⟩) rows hrows
  have hl : xs.length ≤ maxLen := by simpa using hl
  refine ⟨xs, rfl, fun k hk => ?_⟩
  have hk := List.mem_singleton.1 hk
  subst hk; unfold maxLen at hl; omega
theorem of_Event (r : List PV) (h : shEvent.Is r) : ∃ x : GEvent, r = eEvent x ∧ ∀ k ∈ zsEvent x, (k : Int) ≤ 9223372036854775807 := by
  obtain ⟨c0, r0, rfl, h0, c1, r1, rfl, h1, c2, r2, rfl, h2, c3, r3, rfl, h3, hn⟩ := h
  have hn : r3 = [] := hn
  subst hn
  obtain ⟨x0, rfl, _⟩ := h0
  obtain ⟨x1, rfl, _⟩ := h1
  obtain ⟨x2, rfl, b2⟩ := h2
  obtain ⟨x3, rfl, b3⟩ := of_IntS _ h3
  refine ⟨⟨x0, x1, x2, x3⟩, rfl, fun k hk => ?_⟩
  simp only [zsEvent] at hk
  rcases List.mem_append.1 hk with hk | hk
  · have hk := List.mem_singleton.1 hk; subst hk; unfold maxLen at b2; show ((ByteArray.size x2 : Nat) : Int) ≤ _; omega
  rcases List.mem_append.1 hk with hk | hk
  · exact b3 k hk
  · simp at hk
theorem of_EventS (c : List PV) (h : (Sh.slice 94 shEvent).Is c) : ∃ xs, c = [.sl 4 (List.map eEvent xs)] ∧ ∀ k ∈ zsEventS xs, (k : Int) ≤ 9223372036854775807 := by
  obtain ⟨rows, rfl, hl, hrows⟩ := h
  obtain ⟨xs, rfl, hp⟩ := rows_of eEvent (fun x => ∀ k ∈ zsEvent x, (k : Int) ≤ 9223372036854775807) of_Event rows hrows
  have hl : xs.length ≤ maxLen := by simpa using hl
  refine ⟨xs, rfl, fun k hk => ?_⟩
  simp only [zsEventS, List.mem_cons, List.mem_flatMap] at hk
  rcases hk with rfl | ⟨x, hx, hk⟩
  · unfold maxLen at hl; omega
  · exact hp x hx k hk

theorem lawReal (pvs : List PV) (h : ArgsIs [(.slice 94 shEvent)] pvs) : Real Try.prog 3 pvs (.bool true) := by
  obtain ⟨cs0, r0, hI0, rfl, h0⟩ := h
  have h0 : r0 = [] := h0
  subst h0
  obtain ⟨x0, rfl, b0⟩ := of_EventS _ hI0
  exact r_laws_FnExactUntidied std rfl x0 b0

set_option maxRecDepth 100000 in
theorem law_lifted (os : Os) (started : os.Started) (H : Type) (enc : TypeId × Value → H) :
    ReturnsInHanded {} Try.checked os 3 .any (Rows.fnExactUntidiedSpec.pre6 enc Try.prog Try.f3 Rows.fnExactUntidiedRow.domain false) (Rows.fnExactUntidiedSpec.post enc Try.prog Try.f3 false true false false) := by
  refine returnsInHanded_of_change (C := Try.checked) Try.own started (by kernel_rfl) Try.func3
    (ChangeSpec.witness6 (enc := enc) (C := Try.checked) false ⟨#[], #[.slice none 0 0], []⟩ 8 (by kernel_rfl) (by kernel_rfl) (by kernel_rfl) (by kernel_rfl)) ?_
  intro W base args ds gs before hval hW hcnd _
  refine calls_true (P := Try.prog) (ss := [(.slice 94 shEvent)]) (tr := 4) Try.laidOut rfl ?_ rfl (by kernel_rfl) (allShB_ok _ _ (by kernel_rfl)) ?_ lawReal hval hW
  · intro t ht
    have ht : t = 22 := List.mem_singleton.1 ht
    subst ht
    exact ⟨by kernel_rfl, of_decide_eq_true (by kernel_rfl)⟩
  · intro ds hds
    match ds, hds with
    | [d0], _ => rfl

theorem untidied_holds : Rows.FnExactUntidiedSaid :=
  OpenClaim.holds_of_wide 3 Try.f3 rfl rfl rfl rfl rfl rfl rfl ⟨rfl, rfl, rfl, rfl, rfl⟩ rfl rfl rfl rfl rfl (by kernel_rfl) Try.func3 (by kernel_rfl)
    (of_decide_eq_true (by kernel_rfl)) (by unfold Func.isWrapper; rw [if_neg (by decide +kernel)]; exact ⟨rfl, rfl⟩)
    (fun os started H enc _ => law_lifted os started H enc)

#print axioms untidied_holds
end Go.Proofs.Ytjbokkoiicoahaa

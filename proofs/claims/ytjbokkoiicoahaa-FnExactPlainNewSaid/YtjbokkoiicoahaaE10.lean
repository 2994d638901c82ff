/- PlainNew: the program and the reference answer alike at every list of users, leave what came in as it was, and share nothing. -/
import Derived.Test.YtjbokkoiicoahaaL1
import Derived.Test.YtjbokkoiicoahaaRows
import Derived.ProofKit
namespace Go.Proofs.Ytjbokkoiicoahaa
open Go.ChangeShapes Go.WideShapes Go.ChangeAt Go.RowKit Go.Av

theorem Try.own : ownKnob Try.prog.godebug = none := by kernel_rfl
theorem Try.laidOut : laidOutB Try.prog = true := by kernel_rfl

theorem of_StringS (c : List PV) (h : (Sh.slice 9 .str).Is c) : ∃ xs, c = [.sl 1 (List.map eString xs)] ∧ ∀ k ∈ zsStringS xs, (k : Int) ≤ 9223372036854775807 := by
  obtain ⟨rows, rfl, hl, hrows⟩ := h
  obtain ⟨xs, rfl, hp⟩ := rows_of eString (fun x => x.size ≤ maxLen) (fun r h => by obtain ⟨n, rfl, h2⟩ := h; exact ⟨n, rfl, h2⟩) rows hrows
  have hl : xs.length ≤ maxLen := by simpa using hl
  refine ⟨xs, rfl, fun k hk => ?_⟩
  simp only [zsStringS, List.mem_cons, List.mem_flatMap] at hk
  rcases hk with rfl | ⟨x, hx, hk⟩
  · unfold maxLen at hl; omega
  · have hk := List.mem_singleton.1 hk
    have := hp x hx
    subst hk; unfold maxLen at this; omega

theorem lawReal (pvs : List PV) (h : ArgsIs [(.slice 9 .str)] pvs) : Real Try.prog 7 pvs (.bool true) := by
  obtain ⟨cs0, r0, hI0, rfl, h0⟩ := h
  have h0 : r0 = [] := h0
  subst h0
  obtain ⟨x0, rfl, b0⟩ := of_StringS _ hI0
  exact r_laws_FnExactPlainNew std rfl x0 b0

set_option maxRecDepth 100000 in
theorem law_lifted (os : Os) (started : os.Started) (H : Type) (enc : TypeId × Value → H) :
    ReturnsInHanded {} Try.checked os 7 .any (Rows.fnExactPlainNewSpec.pre6 enc Try.prog Try.f7 Rows.fnExactPlainNewRow.domain false) (Rows.fnExactPlainNewSpec.post enc Try.prog Try.f7 false true false false) := by
  refine returnsInHanded_of_change (C := Try.checked) Try.own started (by kernel_rfl) Try.func7
    (ChangeSpec.witness6 (enc := enc) (C := Try.checked) false ⟨#[], #[.slice none 0 0], []⟩ 8 (by kernel_rfl) (by kernel_rfl) (by kernel_rfl) (by kernel_rfl)) ?_
  intro W base args ds gs before hval hW hcnd _
  refine calls_true (P := Try.prog) (ss := [(.slice 9 .str)]) (tr := 4) Try.laidOut rfl ?_ rfl (by kernel_rfl) (allShB_ok _ _ (by kernel_rfl)) ?_ lawReal hval hW
  · intro t ht
    have ht : t = 51 := List.mem_singleton.1 ht
    subst ht
    exact ⟨by kernel_rfl, of_decide_eq_true (by kernel_rfl)⟩
  · intro ds hds
    match ds, hds with
    | [d0], _ => rfl

theorem plainNew_holds : Rows.FnExactPlainNewSaid :=
  OpenClaim.holds_of_wide 7 Try.f7 rfl rfl rfl rfl rfl rfl rfl ⟨rfl, rfl, rfl, rfl, rfl⟩ rfl rfl rfl rfl rfl (by kernel_rfl) Try.func7 (by kernel_rfl)
    (of_decide_eq_true (by kernel_rfl)) (by unfold Func.isWrapper; rw [if_neg (by decide +kernel)]; exact ⟨rfl, rfl⟩)
    (fun os started H enc _ => law_lifted os started H enc)

#print axioms plainNew_holds
end Go.Proofs.Ytjbokkoiicoahaa

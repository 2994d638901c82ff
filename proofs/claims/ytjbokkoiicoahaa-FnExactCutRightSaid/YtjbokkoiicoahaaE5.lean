/- CutRight: the program and the reference answer alike at every cut; what came in reads as it did. -/
import Derived.Test.YtjbokkoiicoahaaQ4
import Derived.Test.YtjbokkoiicoahaaRows
import Derived.ProofKit
namespace Go.Proofs.Ytjbokkoiicoahaa
open Go.ChangeShapes Go.WideShapes Go.ChangeAt Go.RowKit Go.Av

theorem Try.own : ownKnob Try.prog.godebug = none := by kernel_rfl
theorem Try.laidOut : laidOutB Try.prog = true := by kernel_rfl

def shMail : Sh := .struct (.cons 3 (.int .i64) (.cons 3 (.int .i64) (.cons 9 .str .nil)))
def shBox : Sh := .struct (.cons 3 (.int .i64) (.cons 9 .str (.cons 9 .str (.cons 3 (.int .i64) (.cons 108 (.slice 202 shMail) .nil)))))
def shState : Sh := .struct (.cons 30 (.slice 187 shBox) .nil)
def shCut : Sh := .struct (.cons 32 shState (.cons 32 shState (.cons 32 shState (.cons 4 .bool (.cons 4 .bool .nil)))))
theorem of_Mail (r : List PV) (h : shMail.Is r) : ∃ x : GMail, r = eMail x ∧ ∀ k ∈ zsMail x, (k : Int) ≤ 9223372036854775807 := by
  obtain ⟨c0, r0, rfl, h0, c1, r1, rfl, h1, c2, r2, rfl, h2, hn⟩ := h
  have hn : r2 = [] := hn
  subst hn
  obtain ⟨x0, rfl, _⟩ := h0
  obtain ⟨x1, rfl, _⟩ := h1
  obtain ⟨x2, rfl, b2⟩ := h2
  refine ⟨⟨x0, x1, x2⟩, rfl, fun k hk => ?_⟩
  simp only [zsMail] at hk
  rcases List.mem_append.1 hk with hk | hk
  · have hk := List.mem_singleton.1 hk; subst hk; unfold maxLen at b2; show ((ByteArray.size x2 : Nat) : Int) ≤ _; omega
  · simp at hk
theorem of_MailS (c : List PV) (h : (Sh.slice 202 shMail).Is c) : ∃ xs, c = [.sl 3 (List.map eMail xs)] ∧ ∀ k ∈ zsMailS xs, (k : Int) ≤ 9223372036854775807 := by
  obtain ⟨rows, rfl, hl, hrows⟩ := h
  obtain ⟨xs, rfl, hp⟩ := rows_of eMail (fun x => ∀ k ∈ zsMail x, (k : Int) ≤ 9223372036854775807) of_Mail rows hrows
  have hl : xs.length ≤ maxLen := by simpa using hl
  refine ⟨xs, rfl, fun k hk => ?_⟩
  simp only [zsMailS, List.mem_cons, List.mem_flatMap] at hk
  rcases hk with rfl | ⟨x, hx, hk⟩
  · unfold maxLen at hl; omega
  · exact hp x hx k hk
theorem of_Box (r : List PV) (h : shBox.Is r) : ∃ x : GBox, r = eBox x ∧ ∀ k ∈ zsBox x, (k : Int) ≤ 9223372036854775807 := by
  obtain ⟨c0, r0, rfl, h0, c1, r1, rfl, h1, c2, r2, rfl, h2, c3, r3, rfl, h3, c4, r4, rfl, h4, hn⟩ := h
  have hn : r4 = [] := hn
  subst hn
  obtain ⟨x0, rfl, _⟩ := h0
  obtain ⟨x1, rfl, b1⟩ := h1
  obtain ⟨x2, rfl, b2⟩ := h2
  obtain ⟨x3, rfl, _⟩ := h3
  obtain ⟨x4, rfl, b4⟩ := of_MailS _ h4
  refine ⟨⟨x0, x1, x2, x3, x4⟩, rfl, fun k hk => ?_⟩
  simp only [zsBox] at hk
  rcases List.mem_append.1 hk with hk | hk
  · have hk := List.mem_singleton.1 hk; subst hk; unfold maxLen at b1; show ((ByteArray.size x1 : Nat) : Int) ≤ _; omega
  rcases List.mem_append.1 hk with hk | hk
  · have hk := List.mem_singleton.1 hk; subst hk; unfold maxLen at b2; show ((ByteArray.size x2 : Nat) : Int) ≤ _; omega
  rcases List.mem_append.1 hk with hk | hk
  · exact b4 k hk
  · simp at hk
theorem of_BoxS (c : List PV) (h : (Sh.slice 187 shBox).Is c) : ∃ xs, c = [.sl 5 (List.map eBox xs)] ∧ ∀ k ∈ zsBoxS xs, (k : Int) ≤ 9223372036854775807 := by
  obtain ⟨rows, rfl, hl, hrows⟩ := h
  obtain ⟨xs, rfl, hp⟩ := rows_of eBox (fun x => ∀ k ∈ zsBox x, (k : Int) ≤ 9223372036854775807) of_Box rows hrows
  have hl : xs.length ≤ maxLen := by simpa using hl
  refine ⟨xs, rfl, fun k hk => ?_⟩
  simp only [zsBoxS, List.mem_cons, List.mem_flatMap] at hk
  rcases hk with rfl | ⟨x, hx, hk⟩
  · unfold maxLen at hl; omega
  · exact hp x hx k hk
theorem of_State (r : List PV) (h : shState.Is r) : ∃ x : GState, r = eState x ∧ ∀ k ∈ zsState x, (k : Int) ≤ 9223372036854775807 := by
  obtain ⟨c0, r0, rfl, h0, hn⟩ := h
  have hn : r0 = [] := hn
  subst hn
  obtain ⟨x0, rfl, b0⟩ := of_BoxS _ h0
  refine ⟨⟨x0⟩, rfl, fun k hk => ?_⟩
  simp only [zsState] at hk
  rcases List.mem_append.1 hk with hk | hk
  · exact b0 k hk
  · simp at hk
theorem of_Cut (r : List PV) (h : shCut.Is r) : ∃ x : GCut, r = eCut x ∧ ∀ k ∈ zsCut x, (k : Int) ≤ 9223372036854775807 := by
  obtain ⟨c0, r0, rfl, h0, c1, r1, rfl, h1, c2, r2, rfl, h2, c3, r3, rfl, h3, c4, r4, rfl, h4, hn⟩ := h
  have hn : r4 = [] := hn
  subst hn
  obtain ⟨x0, rfl, b0⟩ := of_State _ h0
  obtain ⟨x1, rfl, b1⟩ := of_State _ h1
  obtain ⟨x2, rfl, b2⟩ := of_State _ h2
  obtain ⟨x3, rfl⟩ := h3
  obtain ⟨x4, rfl⟩ := h4
  refine ⟨⟨x0, x1, x2, x3, x4⟩, rfl, fun k hk => ?_⟩
  simp only [zsCut] at hk
  rcases List.mem_append.1 hk with hk | hk
  · exact b0 k hk
  rcases List.mem_append.1 hk with hk | hk
  · exact b1 k hk
  rcases List.mem_append.1 hk with hk | hk
  · exact b2 k hk
  · simp at hk

theorem lawReal (pvs : List PV) (h : ArgsIs [shCut] pvs) : Real Try.prog 4 pvs (.bool true) := by
  obtain ⟨cs0, r0, hI0, rfl, h0⟩ := h
  have h0 : r0 = [] := h0
  subst h0
  obtain ⟨x0, rfl, b0⟩ := of_Cut _ hI0
  exact r_laws_FnExactCutRight std rfl x0 b0

set_option maxRecDepth 100000 in
theorem law_lifted (os : Os) (started : os.Started) (H : Type) (enc : TypeId × Value → H) :
    ReturnsInHanded {} Try.checked os 4 .any (Rows.fnExactCutRightSpec.pre6 enc Try.prog Try.f4 Rows.fnExactCutRightRow.domain false) (Rows.fnExactCutRightSpec.post enc Try.prog Try.f4 false true false false) := by
  refine returnsInHanded_of_change (C := Try.checked) Try.own started (by kernel_rfl) Try.func4
    (ChangeSpec.witness6 (enc := enc) (C := Try.checked) false ⟨#[], #[.agg #[.slice none 0 0, .slice none 0 0, .slice none 0 0, .bool false, .bool false]], []⟩ 8 (by kernel_rfl) (by kernel_rfl) (by kernel_rfl) (by kernel_rfl)) ?_
  intro W base args ds gs before hval hW hcnd _
  refine calls_true (P := Try.prog) (ss := [shCut]) (tr := 4) Try.laidOut rfl ?_ rfl (by kernel_rfl) (allShB_ok _ _ (by kernel_rfl)) ?_ lawReal hval hW
  · intro t ht
    have ht : t = 34 := List.mem_singleton.1 ht
    subst ht
    exact ⟨by kernel_rfl, of_decide_eq_true (by kernel_rfl)⟩
  · intro ds hds
    match ds, hds with
    | [d0], _ => rfl

theorem cutRight_holds : Rows.FnExactCutRightSaid :=
  OpenClaim.holds_of_wide 4 Try.f4 rfl rfl rfl rfl rfl rfl rfl ⟨rfl, rfl, rfl, rfl, rfl⟩ rfl rfl rfl rfl rfl (by kernel_rfl) Try.func4 (by kernel_rfl)
    (of_decide_eq_true (by kernel_rfl)) (by unfold Func.isWrapper; rw [if_neg (by decide +kernel)]; exact ⟨rfl, rfl⟩)
    (fun os started H enc _ => law_lifted os started H enc)

#print axioms cutRight_holds
end Go.Proofs.Ytjbokkoiicoahaa

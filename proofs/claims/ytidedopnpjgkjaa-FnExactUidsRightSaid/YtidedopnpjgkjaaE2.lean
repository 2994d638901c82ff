/- The row of UidsRight. -/
import Derived.Test.YtidedopnpjgkjaaW10
import Derived.Test.YtidedopnpjgkjaaRows
import Derived.ProofKit
namespace Go.Proofs.Ytidedopnpjgkjaa
open Go.ChangeShapes Go.WideShapes Go.ChangeAt Go.RowKit Go.Av

theorem Try.own : ownKnob Try.prog.godebug = none := by kernel_rfl
theorem Try.laidOut : laidOutB Try.prog = true := by kernel_rfl

def mailSh : Sh := .struct (.cons 3 (.int .i64) (.cons 3 (.int .i64) (.cons 9 .str .nil)))
def boxSh : Sh := .struct (.cons 3 (.int .i64) (.cons 9 .str (.cons 9 .str (.cons 3 (.int .i64) (.cons 85 (.slice 129 mailSh) .nil)))))
def stateSh : Sh := .struct (.cons 39 (.slice 105 boxSh) .nil)

theorem mail_of (r : List PV) (h : mailSh.Is r) : ∃ x : Mail, r = encMail x ∧ x.text.size ≤ maxLen := by
  obtain ⟨c1, r1, rfl, ⟨k, rfl, _⟩, c2, r2, rfl, ⟨f, rfl, _⟩, c3, r3, rfl, ⟨t, rfl, ht⟩, hn⟩ := h
  have hn : r3 = [] := hn
  subst hn
  exact ⟨⟨k, f, t⟩, rfl, ht⟩

theorem box_of (r : List PV) (h : boxSh.Is r) : ∃ x : Box, r = encBox x ∧ ∀ k ∈ szBox x, k ≤ maxLen := by
  obtain ⟨c1, r1, rfl, ⟨k, rfl, _⟩, c2, r2, rfl, ⟨t, rfl, ht⟩, c3, r3, rfl, ⟨t2, rfl, ht2⟩, c4, r4, rfl, ⟨n, rfl, _⟩, c5, r5, rfl, ⟨rows, rfl, hl, hrows⟩, hn⟩ := h
  have hn : r5 = [] := hn
  subst hn
  obtain ⟨xs, hxs, hp⟩ := rows_of encMail (fun x => x.text.size ≤ maxLen) mail_of rows hrows
  refine ⟨⟨k, t, t2, n, xs, rows, hxs⟩, rfl, fun j hj => ?_⟩
  simp only [szBox, szMailS, List.mem_cons, List.mem_flatMap, szMail, List.not_mem_nil, or_false] at hj
  rcases hj with rfl | rfl | rfl | ⟨x, hx, rfl⟩
  · exact ht
  · exact ht2
  · rw [hxs] at hl; simpa using hl
  · exact hp x hx

theorem uidsReal (pvs : List PV) (h : ArgsIs [stateSh] pvs) : Real Try.prog 5 pvs (.bool true) := by
  obtain ⟨cs, r, hIs, rfl, hr⟩ := h
  have hr : r = [] := hr
  subst hr
  obtain ⟨c1, r1, rfl, ⟨rows, rfl, hl, hrows⟩, hn⟩ := hIs
  have hn : r1 = [] := hn
  subst hn
  obtain ⟨xs, hxs, hp⟩ := rows_of encBox (fun x => ∀ k ∈ szBox x, k ≤ maxLen) box_of rows hrows
  refine real5 std rfl ⟨xs, rows, xs.map encBoxO, hxs, rfl⟩ fun k hk => ?_
  simp only [szBoxS, List.mem_cons, List.mem_flatMap] at hk
  rcases hk with rfl | ⟨x, hx, hk⟩
  · have hl2 : xs.length ≤ maxLen := by rw [hxs] at hl; simpa using hl
    exact hl2
  · exact hp x hx k hk

set_option maxRecDepth 100000 in
theorem uids_lifted (os : Os) (started : os.Started) (H : Type) (enc : TypeId × Value → H) :
    ReturnsInHanded {} Try.checked os 5 .any (Rows.fnExactUidsRightSpec.pre6 enc Try.prog Try.f5 Rows.fnExactUidsRightRow.domain false) (Rows.fnExactUidsRightSpec.post enc Try.prog Try.f5 false true false false) := by
  refine returnsInHanded_of_change (C := Try.checked) Try.own started (by kernel_rfl) Try.func5
    (ChangeSpec.witness6 (enc := enc) (C := Try.checked) false ⟨#[], #[.agg #[.slice none 0 0]], []⟩ 8 (by kernel_rfl) (by kernel_rfl) (by kernel_rfl) (by kernel_rfl)) ?_
  intro W base args ds gs before hval hW hcnd _
  refine calls_true (P := Try.prog) (ss := [stateSh]) (tr := 4) Try.laidOut rfl ?_ rfl (by kernel_rfl) (allShB_ok _ _ (by kernel_rfl)) ?_ uidsReal hval hW
  · intro t ht
    have ht : t = 41 := List.mem_singleton.1 ht
    subst ht
    exact ⟨by kernel_rfl, of_decide_eq_true (by kernel_rfl)⟩
  · intro ds hds
    match ds, hds with
    | [d], _ => rfl

theorem uids_holds : Rows.FnExactUidsRightSaid :=
  OpenClaim.holds_of_wide 5 Try.f5 rfl rfl rfl rfl rfl rfl rfl ⟨rfl, rfl, rfl, rfl, rfl⟩ rfl rfl rfl rfl rfl (by kernel_rfl) Try.func5 (by kernel_rfl)
    (of_decide_eq_true (by kernel_rfl)) (by unfold Func.isWrapper; rw [if_neg (by decide +kernel)]; exact ⟨rfl, rfl⟩)
    (fun os started H enc _ => uids_lifted os started H enc)

#print axioms uids_holds
end Go.Proofs.Ytidedopnpjgkjaa

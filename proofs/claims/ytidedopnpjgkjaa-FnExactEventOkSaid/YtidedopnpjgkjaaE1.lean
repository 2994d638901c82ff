/- The row of EventOk. -/
import Derived.Test.YtidedopnpjgkjaaW3
import Derived.Test.YtidedopnpjgkjaaRows
import Derived.ProofKit
namespace Go.Proofs.Ytidedopnpjgkjaa
open Go.ChangeShapes Go.WideShapes Go.ChangeAt Go.RowKit Go.Av

theorem Try.own : ownKnob Try.prog.godebug = none := by kernel_rfl
theorem Try.laidOut : laidOutB Try.prog = true := by kernel_rfl

theorem rows_ints : ∀ (rows : List (List PV)), (∀ r ∈ rows, (Sh.int .i64).Is r) → ∃ xs : List Int, rows = encI xs
  | [], _ => ⟨[], rfl⟩
  | r :: rows, h => by
    obtain ⟨n, hn, _⟩ := h r (by simp)
    obtain ⟨xs, hxs⟩ := rows_ints rows fun r' hr' => h r' (by simp [hr'])
    exact ⟨n :: xs, by rw [hn, hxs]; rfl⟩

def evSh : Sh := .struct (.cons 3 (.int .i64) (.cons 3 (.int .i64) (.cons 9 .str (.cons 22 (.slice 3 (.int .i64)) .nil))))

theorem eventReal (pvs : List PV) (h : ArgsIs [evSh] pvs) : Real Try.prog 3 pvs (.bool true) := by
  obtain ⟨cs, r, hIs, rfl, hr⟩ := h
  have hr : r = [] := hr
  subst hr
  obtain ⟨c1, r1, rfl, ⟨k, rfl, _⟩, c2, r2, rfl, ⟨at', rfl, _⟩, c3, r3, rfl, ⟨text, rfl, ht⟩, c4, r4, rfl, ⟨rows, rfl, hl, hrows⟩, hn⟩ := hIs
  have hn : r4 = [] := hn
  subst hn
  obtain ⟨xs, hxs⟩ := rows_ints rows hrows
  have hl' : xs.length ≤ maxLen := by rw [hxs] at hl; simpa [encI] using hl
  exact real3 std rfl k at' text xs rows hxs ht hl'

set_option maxRecDepth 100000 in
theorem eventOk_lifted (os : Os) (started : os.Started) (H : Type) (enc : TypeId × Value → H) :
    ReturnsInHanded {} Try.checked os 3 .any (Rows.fnExactEventOkSpec.pre6 enc Try.prog Try.f3 Rows.fnExactEventOkRow.domain false) (Rows.fnExactEventOkSpec.post enc Try.prog Try.f3 false true false false) := by
  refine returnsInHanded_of_change (C := Try.checked) Try.own started (by kernel_rfl) Try.func3
    (ChangeSpec.witness6 (enc := enc) (C := Try.checked) false ⟨#[], #[.agg #[.int .i64 0, .int .i64 0, .string ⟨#[]⟩, .slice none 0 0]], []⟩ 8 (by kernel_rfl) (by kernel_rfl) (by kernel_rfl) (by kernel_rfl)) ?_
  intro W base args ds gs before hval hW hcnd _
  refine calls_true (P := Try.prog) (ss := [evSh]) (tr := 4) Try.laidOut rfl ?_ rfl (by kernel_rfl) (allShB_ok _ _ (by kernel_rfl)) ?_ eventReal hval hW
  · intro t ht
    have ht : t = 24 := List.mem_singleton.1 ht
    subst ht
    exact ⟨by kernel_rfl, of_decide_eq_true (by kernel_rfl)⟩
  · intro ds hds
    match ds, hds with
    | [d], _ => rfl

theorem eventOk_holds : Rows.FnExactEventOkSaid :=
  OpenClaim.holds_of_wide 3 Try.f3 rfl rfl rfl rfl rfl rfl rfl ⟨rfl, rfl, rfl, rfl, rfl⟩ rfl rfl rfl rfl rfl (by kernel_rfl) Try.func3 (by kernel_rfl)
    (of_decide_eq_true (by kernel_rfl)) (by unfold Func.isWrapper; rw [if_neg (by decide +kernel)]; exact ⟨rfl, rfl⟩)
    (fun os started H enc _ => eventOk_lifted os started H enc)

#print axioms eventOk_holds
end Go.Proofs.Ytidedopnpjgkjaa

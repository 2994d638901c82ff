/- ShowTalk: the program and the reference answer alike at every list of sessions, and leave what came in as it was. -/
import Derived.Test.YtjbokkoiicoahaaDoorL2
import Derived.Test.YtjbokkoiicoahaaDoorRows
import Derived.Test.YtjbokkoiicoahaaDoorCards
import Derived.Test.YtjbokkoiicoahaaDoorTie
import Derived.ProofKit
import Derived.Lay
import Derived.LaidMore
import Derived.MakeChecks
import Derived.Lib.LaidTab
import Derived.Lib.ItoaNum
import Derived.Stop.LaidErr
import Derived.Shelf.Vars
import Derived.SevenTiedAt
namespace Go.Proofs.YtjbokkoiicoahaaDoor
open Go.ChangeShapes Go.WideShapes Go.ChangeAt Go.RowKit Go.Av

theorem Tryd.own : ownKnob Tryd.prog.godebug = none := by kernel_rfl
theorem Tryd.laidOut : laidOutB Tryd.prog = true := by kernel_rfl

def shBring : Sh := .struct (.cons 3 (.int .i64) (.cons 9 .str (.cons 46 (.slice 9 .str) (.cons 46 (.slice 9 .str) .nil))))
def shMail : Sh := .struct (.cons 3 (.int .i64) (.cons 3 (.int .i64) (.cons 9 .str .nil)))
def shFetch : Sh := .struct (.cons 3 (.int .i64) (.cons 9 .str (.cons 22 (.slice 69 shMail) (.cons 51 (.slice 4 .bool) .nil))))
def shLook : Sh := .struct (.cons 3 (.int .i64) (.cons 9 .str (.cons 9 .str (.cons 3 (.int .i64) (.cons 54 (.slice 3 (.int .i64)) .nil)))))
def shSession : Sh := .struct (.cons 3 (.int .i64) (.cons 9 .str (.cons 9 .str (.cons 4 .bool (.cons 50 shBring (.cons 53 shFetch (.cons 56 shLook .nil)))))))
theorem i64_of {n : Int} (h : (Lit.int .i64 n).wf = true) : i64 n := by
  unfold i64
  simpa [Lit.wf, IntKind.min, IntKind.max, IntKind.signed, IntKind.bits] using h
theorem of_StringS (c : List PV) (h : (Sh.slice 9 .str).Is c) : ∃ xs, c = [.sl 1 (List.map eString xs)] ∧ ∀ k ∈ zsStringS xs, (k : Int) ≤ 9223372036854775807 := by
  obtain ⟨rows, rfl, hl, hrows⟩ := h
  obtain ⟨xs, rfl, hp⟩ := rows_of eString (fun x => x.size ≤ maxLen) (fun r h => by obtain ⟨n, rfl, h2⟩ := h; exact ⟨n, rfl, h2⟩) rows hrows
  have hl : xs.length ≤ maxLen := by simpa using hl
  refine ⟨xs, rfl, fun k hk => ?_⟩
  simp only [zsStringS, List.mem_cons, List.mem_flatMap] at hk
  rcases hk with rfl | ⟨x, hx, hk⟩
  · unfold maxLen at hl; omega
  · have hk := List.mem_singleton.1 hk
    have := hp x hx
    subst hk; unfold maxLen at this; omega
theorem of_Bring (r : List PV) (h : shBring.Is r) : ∃ x : GBring, r = eBring x ∧ ∀ k ∈ zsBring x, (k : Int) ≤ 9223372036854775807 := by
  obtain ⟨c0, r0, rfl, h0, c1, r1, rfl, h1, c2, r2, rfl, h2, c3, r3, rfl, h3, hn⟩ := h
  have hn : r3 = [] := hn
  subst hn
  obtain ⟨x0, rfl, _⟩ := h0
  obtain ⟨x1, rfl, b1⟩ := h1
  obtain ⟨x2, rfl, b2⟩ := of_StringS _ h2
  obtain ⟨x3, rfl, b3⟩ := of_StringS _ h3
  refine ⟨⟨x0, x1, x2, x3⟩, rfl, fun k hk => ?_⟩
  simp only [zsBring] at hk
  rcases List.mem_append.1 hk with hk | hk
  · have hk := List.mem_singleton.1 hk; subst hk; unfold maxLen at b1; show ((ByteArray.size x1 : Nat) : Int) ≤ _; omega
  rcases List.mem_append.1 hk with hk | hk
  · exact b2 k hk
  rcases List.mem_append.1 hk with hk | hk
  · exact b3 k hk
  · simp at hk
theorem of_Mail (r : List PV) (h : shMail.Is r) : ∃ x : GMail, r = eMail x ∧ ∀ k ∈ zsMail x, (k : Int) ≤ 9223372036854775807 := by
  obtain ⟨c0, r0, rfl, h0, c1, r1, rfl, h1, c2, r2, rfl, h2, hn⟩ := h
  have hn : r2 = [] := hn
  subst hn
  obtain ⟨x0, rfl, _⟩ := h0
  obtain ⟨x1, rfl, _⟩ := h1
  obtain ⟨x2, rfl, b2⟩ := h2
  refine ⟨⟨x0, x1, x2⟩, rfl, fun k hk => ?_⟩
  simp only [zsMail] at hk
  rcases List.mem_append.1 hk with hk | hk
  · have hk := List.mem_singleton.1 hk; subst hk; unfold maxLen at b2; show ((ByteArray.size x2 : Nat) : Int) ≤ _; omega
  · simp at hk
theorem of_MailS (c : List PV) (h : (Sh.slice 69 shMail).Is c) : ∃ xs, c = [.sl 3 (List.map eMail xs)] ∧ ∀ k ∈ zsMailS xs, (k : Int) ≤ 9223372036854775807 := by
  obtain ⟨rows, rfl, hl, hrows⟩ := h
  obtain ⟨xs, rfl, hp⟩ := rows_of eMail (fun x => ∀ k ∈ zsMail x, (k : Int) ≤ 9223372036854775807) of_Mail rows hrows
  have hl : xs.length ≤ maxLen := by simpa using hl
  refine ⟨xs, rfl, fun k hk => ?_⟩
  simp only [zsMailS, List.mem_cons, List.mem_flatMap] at hk
  rcases hk with rfl | ⟨x, hx, hk⟩
  · unfold maxLen at hl; omega
  · exact hp x hx k hk
theorem of_BoolS (c : List PV) (h : (Sh.slice 4 .bool).Is c) : ∃ xs, c = [.sl 1 (List.map eBool xs)] ∧ ∀ k ∈ zsBoolS xs, (k : Int) ≤ 9223372036854775807 := by
  obtain ⟨rows, rfl, hl, hrows⟩ := h
  obtain ⟨xs, rfl, hp⟩ := rows_of eBool (fun _ => True) (fun r h => by obtain ⟨n, rfl⟩ := h; exact ⟨n, rfl, trivial⟩) rows hrows
  have hl : xs.length ≤ maxLen := by simpa using hl
  refine ⟨xs, rfl, fun k hk => ?_⟩
  have hk := List.mem_singleton.1 hk
  subst hk; unfold maxLen at hl; omega
theorem of_Fetch (r : List PV) (h : shFetch.Is r) : ∃ x : GFetch, r = eFetch x ∧ ∀ k ∈ zsFetch x, (k : Int) ≤ 9223372036854775807 := by
  obtain ⟨c0, r0, rfl, h0, c1, r1, rfl, h1, c2, r2, rfl, h2, c3, r3, rfl, h3, hn⟩ := h
  have hn : r3 = [] := hn
  subst hn
  obtain ⟨x0, rfl, _⟩ := h0
  obtain ⟨x1, rfl, b1⟩ := h1
  obtain ⟨x2, rfl, b2⟩ := of_MailS _ h2
  obtain ⟨x3, rfl, b3⟩ := of_BoolS _ h3
  refine ⟨⟨x0, x1, x2, x3⟩, rfl, fun k hk => ?_⟩
  simp only [zsFetch] at hk
  rcases List.mem_append.1 hk with hk | hk
  · have hk := List.mem_singleton.1 hk; subst hk; unfold maxLen at b1; show ((ByteArray.size x1 : Nat) : Int) ≤ _; omega
  rcases List.mem_append.1 hk with hk | hk
  · exact b2 k hk
  rcases List.mem_append.1 hk with hk | hk
  · exact b3 k hk
  · simp at hk
theorem of_IntS (c : List PV) (h : (Sh.slice 3 (.int .i64)).Is c) : ∃ xs, c = [.sl 1 (List.map eInt xs)] ∧ ∀ k ∈ zsIntS xs, (k : Int) ≤ 9223372036854775807 := by
  obtain ⟨rows, rfl, hl, hrows⟩ := h
  obtain ⟨xs, rfl, hp⟩ := rows_of eInt (fun _ => True) (fun r h => by obtain ⟨n, rfl, _⟩ := h; exact ⟨n, rfl, trivial⟩) rows hrows
  have hl : xs.length ≤ maxLen := by simpa using hl
  refine ⟨xs, rfl, fun k hk => ?_⟩
  have hk := List.mem_singleton.1 hk
  subst hk; unfold maxLen at hl; omega
theorem of_Look (r : List PV) (h : shLook.Is r) : ∃ x : GLook, r = eLook x ∧ ∀ k ∈ zsLook x, (k : Int) ≤ 9223372036854775807 := by
  obtain ⟨c0, r0, rfl, h0, c1, r1, rfl, h1, c2, r2, rfl, h2, c3, r3, rfl, h3, c4, r4, rfl, h4, hn⟩ := h
  have hn : r4 = [] := hn
  subst hn
  obtain ⟨x0, rfl, _⟩ := h0
  obtain ⟨x1, rfl, b1⟩ := h1
  obtain ⟨x2, rfl, b2⟩ := h2
  obtain ⟨x3, rfl, _⟩ := h3
  obtain ⟨x4, rfl, b4⟩ := of_IntS _ h4
  refine ⟨⟨x0, x1, x2, x3, x4⟩, rfl, fun k hk => ?_⟩
  simp only [zsLook] at hk
  rcases List.mem_append.1 hk with hk | hk
  · have hk := List.mem_singleton.1 hk; subst hk; unfold maxLen at b1; show ((ByteArray.size x1 : Nat) : Int) ≤ _; omega
  rcases List.mem_append.1 hk with hk | hk
  · have hk := List.mem_singleton.1 hk; subst hk; unfold maxLen at b2; show ((ByteArray.size x2 : Nat) : Int) ≤ _; omega
  rcases List.mem_append.1 hk with hk | hk
  · exact b4 k hk
  · simp at hk
theorem of_Session (r : List PV) (h : shSession.Is r) : ∃ x : GSession, r = eSession x ∧ (∀ k ∈ zsSession x, (k : Int) ≤ 9223372036854775807) ∧ rgSession x := by
  obtain ⟨c0, r0, rfl, h0, c1, r1, rfl, h1, c2, r2, rfl, h2, c3, r3, rfl, h3, c4, r4, rfl, h4, c5, r5, rfl, h5, c6, r6, rfl, h6, hn⟩ := h
  have hn : r6 = [] := hn
  subst hn
  obtain ⟨x0, rfl, g0⟩ := h0
  obtain ⟨x1, rfl, b1⟩ := h1
  obtain ⟨x2, rfl, b2⟩ := h2
  obtain ⟨x3, rfl⟩ := h3
  obtain ⟨x4, rfl, b4⟩ := of_Bring _ h4
  obtain ⟨x5, rfl, b5⟩ := of_Fetch _ h5
  obtain ⟨x6, rfl, b6⟩ := of_Look _ h6
  refine ⟨⟨x0, x1, x2, x3, x4, x5, x6⟩, rfl, fun k hk => ?_, i64_of g0⟩
  simp only [zsSession] at hk
  rcases List.mem_append.1 hk with hk | hk
  · have hk := List.mem_singleton.1 hk; subst hk; unfold maxLen at b1; show ((ByteArray.size x1 : Nat) : Int) ≤ _; omega
  rcases List.mem_append.1 hk with hk | hk
  · have hk := List.mem_singleton.1 hk; subst hk; unfold maxLen at b2; show ((ByteArray.size x2 : Nat) : Int) ≤ _; omega
  rcases List.mem_append.1 hk with hk | hk
  · exact b4 k hk
  rcases List.mem_append.1 hk with hk | hk
  · exact b5 k hk
  rcases List.mem_append.1 hk with hk | hk
  · exact b6 k hk
  · simp at hk
theorem of_SessionS (c : List PV) (h : (Sh.slice 58 shSession).Is c) : ∃ xs, c = [.sl 17 (List.map eSession xs)] ∧ (∀ k ∈ zsSessionS xs, (k : Int) ≤ 9223372036854775807) ∧ ∀ x ∈ xs, rgSession x := by
  obtain ⟨rows, rfl, hl, hrows⟩ := h
  obtain ⟨xs, rfl, hp⟩ := rows_of eSession (fun x => (∀ k ∈ zsSession x, (k : Int) ≤ 9223372036854775807) ∧ rgSession x) of_Session rows hrows
  have hl : xs.length ≤ maxLen := by simpa using hl
  refine ⟨xs, rfl, fun k hk => ?_, fun x hx => (hp x hx).2⟩
  simp only [zsSessionS, List.mem_cons, List.mem_flatMap] at hk
  rcases hk with rfl | ⟨x, hx, hk⟩
  · unfold maxLen at hl; omega
  · exact (hp x hx).1 k hk

theorem lawReal (pvs : List PV) (h : ArgsIs [(.slice 58 shSession)] pvs) : Real Tryd.prog 4 pvs (.bool true) := by
  obtain ⟨cs0, r0, hI0, rfl, h0⟩ := h
  have h0 : r0 = [] := h0
  subst h0
  obtain ⟨x0, rfl, b0, g0⟩ := of_SessionS _ hI0
  exact r_laws_FnExactShowTalk std rfl x0 b0 g0

/-- What the row's condition and the start say of the library's variables. -/
theorem inv_of {W : World} (hL : laidMetH Tryd.prog Rows.fnExactShowTalkRow.laid W) (hsh : W.ShapedOpen Tryd.prog) : Inv Tryd.prog W := by
  have e3 : Tryd.prog.globalNamed "internal/strconv.uint64pow10" = some 3 := by kernel_rfl
  have e0 : Tryd.prog.globalNamed "internal/bytealg.MaxLen" = some 0 := by kernel_rfl
  rw [MakeChecks.laidMetH_plain _ _ _ (by kernel_rfl)] at hL
  have ht : Lib.TabIs Tryd.prog W "internal/strconv.uint64pow10" .u64 tabP := Lib.tabIs_of_head (t := 125) (e := 113) (n := 20) e3 (by kernel_rfl) (by kernel_rfl) (by kernel_rfl) (by kernel_rfl) (by kernel_rfl) (laidMet.tail (laidMet.tail hL))
  obtain ⟨m, hm⟩ := cell_of_shapedOpen_int (P := Tryd.prog) (g := 0) (t := 3) (zero := #[.int .i64 0]) (k := .i64) hsh (of_decide_eq_true (by kernel_rfl)) (by kernel_rfl) rfl (by kernel_rfl) (by kernel_rfl) Tryd.underlying3
  refine ⟨fun g hg => ?_, fun g hg => ?_, fun g hg => ?_⟩
  · rcases hg with hg | hg
    · obtain rfl := Option.some.inj (e3.symm.trans hg)
      have hc := ht.cell e3 0 (by decide)
      unfold World.cell? at hc
      cases hb : W.heap[3]? with
      | none => simp [hb] at hc
      | some o => exact (Array.getElem?_eq_some_iff.1 hb).1
    · obtain rfl := Option.some.inj (e0.symm.trans hg)
      unfold World.cell? at hm
      cases hb : W.heap[0]? with
      | none => simp [hb] at hm
      | some o => exact (Array.getElem?_eq_some_iff.1 hb).1
  · exact ht
  · obtain rfl := Option.some.inj (e0.symm.trans hg)
    exact ⟨m, hm⟩

set_option maxRecDepth 100000 in
theorem law_lifted (os : Os) (started : os.Started) (H : Type) (enc : TypeId × Value → H) :
    ReturnsInHanded {} Tryd.checked os 4 .any (fun w args => (Rows.fnExactShowTalkSpec.pre enc Tryd.prog Tryd.f4 [] false w args ∧ laidMetH Tryd.prog Rows.fnExactShowTalkRow.laid w) ∧ sizedMet enc Tryd.prog Tryd.f4 (OpenSpec.ofChange Rows.fnExactShowTalkSpec) false w args)
      (Rows.fnExactShowTalkSpec.post enc Tryd.prog Tryd.f4 false true false false) := by
  refine returnsInHanded_of_calls (C := Tryd.checked) Tryd.own started (by kernel_rfl)
    (ChangeSpec.witness_at (enc := enc) (C := Tryd.checked) (os := os) (X := fun w _ => laidMetH Tryd.prog Rows.fnExactShowTalkRow.laid w) false (World.laidAll Tryd.prog os Rows.fnExactShowTalkRow.laid) #[.slice none 0 0] 8 (World.laidAll_os _ _ _) (by kernel_rfl) (by kernel_rfl) (by kernel_rfl) (by kernel_rfl) (by kernel_rfl)
      (by rw [MakeChecks.laidMetH_plain _ _ _ (by kernel_rfl)]; exact laidMet_laidAll _ (by kernel_rfl) (by kernel_rfl))) ?_
  intro w tape i _ hsh _ hok hpre hholds
  obtain ⟨_, _, _, fn', hfn', _, _, _, _, hval⟩ := hok
  have e : fn' = Tryd.f4 := Option.some.inj (hfn'.symm.trans Tryd.func4)
  subst e
  obtain ⟨⟨⟨ds, gs, before, hw, _⟩, hx⟩, _⟩ := hpre
  have hx : laidMetH Tryd.prog Rows.fnExactShowTalkRow.laid (w.forCall tape i) := hx.of_heap (by rfl)
  have hW := DataW.Whole.of_heap (w' := w.forCall tape i) (by rfl) hw
  suffices hs : Calls Tryd.prog 4 i.args (w.forCall tape i) fun e W' => ∃ v, e = .returned v ∧ Rows.fnExactShowTalkSpec.post enc Tryd.prog Tryd.f4 false true false false (w.forCall tape i) i.args v W' from
    hs.mono fun e W' ⟨v, he, hp⟩ => by subst he; exact ChangeSpec.post_blind hp
  refine calls_true (P := Tryd.prog) (ss := [(.slice 58 shSession)]) (tr := 4) Tryd.laidOut rfl ?_ rfl (by kernel_rfl) (allShB_ok _ _ (by kernel_rfl)) ?_ lawReal (inv_of hx hsh) hval hW
  · intro t ht
    have ht : t = 33 := List.mem_singleton.1 ht
    subst ht
    exact ⟨by kernel_rfl, of_decide_eq_true (by kernel_rfl)⟩
  · intro ds hds
    match ds, hds with
    | [d0], _ => rfl

theorem showTalk_holds : Rows.FnExactShowTalkSaid :=
  OpenClaim.holds_of_wide 4 Tryd.f4 rfl rfl rfl rfl rfl rfl rfl ⟨rfl, rfl, rfl, rfl, rfl⟩ rfl rfl rfl rfl rfl (by kernel_rfl) Tryd.func4 (by kernel_rfl)
    (of_decide_eq_true (by kernel_rfl)) (by unfold Func.isWrapper; rw [if_neg (by decide +kernel)]; exact ⟨rfl, rfl⟩)
    (fun os started H enc _ => law_lifted os started H enc)

theorem showTalk_card_holds : Rows.FnExactShowTalkCardSaid :=
  Claim7.holds_tied_plain_at .later [] [.data, .data, .data, .data, .pinned] true (true, "3b23d3a935aff9f436cc155575df253df10befa0f46d06d3373ed65ec7a7694f") false
    showTalk_holds (fun _ h => by cases h) (by kernel_rfl) (fun _ h => by cases h) fnExactShowTalk_row_tie rfl ⟨rfl, rfl⟩ (by kernel_rfl) rfl
    (fun f fn hf hfn => by
      obtain rfl : f = 4 := Option.some.inj ((show Tryd.prog.funcNamed "loop.example/g00287/laws.FnExactShowTalk" = some 4 by kernel_rfl).symm.trans hf) |>.symm
      obtain rfl : fn = Tryd.f4 := (Option.some.inj (Tryd.func4.symm.trans hfn)).symm
      exact ⟨by kernel_rfl, fun j t ht => by
        rw [Tryd.params4] at ht
        have hm : t ∈ [33] := by simpa using Array.mem_of_getElem? ht
        have hall : ([33].all fun u => !Tryd.prog.wantsStandIn u) = true := by kernel_rfl
        exact (show Tryd.prog.wantsStandIn t = false by simpa using List.all_eq_true.1 hall t hm)⟩)
    (by kernel_rfl)

#print axioms showTalk_card_holds
end Go.Proofs.YtjbokkoiicoahaaDoor

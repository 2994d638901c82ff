/- Alike: the program and the reference answer alike at every plain server and server, and leave what came in as it was. -/
import Derived.Test.YtjbokkoiicoahaaGreatL2
import Derived.Test.YtjbokkoiicoahaaGreatRows
import Derived.ProofKit
namespace Go.Proofs.YtjbokkoiicoahaaGreat
open Go.ChangeShapes Go.WideShapes Go.ChangeAt Go.RowKit Go.Av

theorem Tryz.own : ownKnob Tryz.prog.godebug = none := by kernel_rfl
theorem Tryz.laidOut : laidOutB Tryz.prog = true := by kernel_rfl

def shMail : Sh := .struct (.cons 3 (.int .i64) (.cons 3 (.int .i64) (.cons 9 .str .nil)))
def shBox : Sh := .struct (.cons 3 (.int .i64) (.cons 9 .str (.cons 9 .str (.cons 3 (.int .i64) (.cons 111 (.slice 221 shMail) .nil)))))
def shState : Sh := .struct (.cons 55 (.slice 174 shBox) .nil)
def shBring : Sh := .struct (.cons 3 (.int .i64) (.cons 9 .str (.cons 22 (.slice 9 .str) (.cons 22 (.slice 9 .str) .nil))))
def shFetch : Sh := .struct (.cons 3 (.int .i64) (.cons 9 .str (.cons 111 (.slice 221 shMail) (.cons 80 (.slice 4 .bool) .nil))))
def shLook : Sh := .struct (.cons 3 (.int .i64) (.cons 9 .str (.cons 9 .str (.cons 3 (.int .i64) (.cons 29 (.slice 3 (.int .i64)) .nil)))))
def shSession : Sh := .struct (.cons 3 (.int .i64) (.cons 9 .str (.cons 9 .str (.cons 4 .bool (.cons 110 shBring (.cons 113 shFetch (.cons 114 shLook .nil)))))))
def shPlain : Sh := .struct (.cons 57 shState (.cons 3 (.int .i64) (.cons 32 (.slice 116 shSession) .nil)))
def shWrite : Sh := .struct (.cons 3 (.int .i64) (.cons 9 .str .nil))
def shDisk : Sh := .struct (.cons 22 (.slice 9 .str) (.cons 23 (.slice 218 shWrite) .nil))
def shRec : Sh := .struct (.cons 3 (.int .i64) (.cons 3 (.int .i64) (.cons 3 (.int .i64) (.cons 3 (.int .i64) (.cons 3 (.int .i64) (.cons 9 .str (.cons 9 .str (.cons 9 .str .nil))))))))
def shItem : Sh := .struct (.cons 3 (.int .i64) (.cons 234 shRec .nil))
def shSeg : Sh := .struct (.cons 3 (.int .i64) (.cons 3 (.int .i64) (.cons 3 (.int .i64) (.cons 190 (.slice 236 shItem) .nil))))
def shLog : Sh := .struct (.cons 25 shDisk (.cons 3 (.int .i64) (.cons 26 (.slice 192 shSeg) (.cons 3 (.int .i64) (.cons 3 (.int .i64) (.cons 3 (.int .i64) (.cons 3 (.int .i64) .nil)))))))
def shStore : Sh := .struct (.cons 28 shLog (.cons 29 (.slice 3 (.int .i64)) .nil))
def shServer : Sh := .struct (.cons 31 shStore (.cons 32 (.slice 116 shSession) .nil))
theorem of_Mail (r : List PV) (h : shMail.Is r) : ∃ x : GMail, r = eMail x ∧ ∀ k ∈ zsMail x, (k : Int) ≤ 9223372036854775807 := by
  obtain ⟨c0, r0, rfl, h0, c1, r1, rfl, h1, c2, r2, rfl, h2, hn⟩ := h
  have hn : r2 = [] := hn
  subst hn
  obtain ⟨x0, rfl, _⟩ := h0
  obtain ⟨x1, rfl, _⟩ := h1
  obtain ⟨x2, rfl, b2⟩ := h2
  refine ⟨⟨x0, x1, x2⟩, rfl, fun k hk => ?_⟩
  simp only [zsMail] at hk
  rcases List.mem_append.1 hk with hk | hk
  · have hk := List.mem_singleton.1 hk; subst hk; unfold maxLen at b2; show ((ByteArray.size x2 : Nat) : Int) ≤ _; omega
  · simp at hk
theorem of_MailS (c : List PV) (h : (Sh.slice 221 shMail).Is c) : ∃ xs, c = [.sl 3 (List.map eMail xs)] ∧ ∀ k ∈ zsMailS xs, (k : Int) ≤ 9223372036854775807 := by
  obtain ⟨rows, rfl, hl, hrows⟩ := h
  obtain ⟨xs, rfl, hp⟩ := rows_of eMail (fun x => ∀ k ∈ zsMail x, (k : Int) ≤ 9223372036854775807) of_Mail rows hrows
  have hl : xs.length ≤ maxLen := by simpa using hl
  refine ⟨xs, rfl, fun k hk => ?_⟩
  simp only [zsMailS, List.mem_cons, List.mem_flatMap] at hk
  rcases hk with rfl | ⟨x, hx, hk⟩
  · unfold maxLen at hl; omega
  · exact hp x hx k hk
theorem of_Box (r : List PV) (h : shBox.Is r) : ∃ x : GBox, r = eBox x ∧ ∀ k ∈ zsBox x, (k : Int) ≤ 9223372036854775807 := by
  obtain ⟨c0, r0, rfl, h0, c1, r1, rfl, h1, c2, r2, rfl, h2, c3, r3, rfl, h3, c4, r4, rfl, h4, hn⟩ := h
  have hn : r4 = [] := hn
  subst hn
  obtain ⟨x0, rfl, _⟩ := h0
  obtain ⟨x1, rfl, b1⟩ := h1
  obtain ⟨x2, rfl, b2⟩ := h2
  obtain ⟨x3, rfl, _⟩ := h3
  obtain ⟨x4, rfl, b4⟩ := of_MailS _ h4
  refine ⟨⟨x0, x1, x2, x3, x4⟩, rfl, fun k hk => ?_⟩
  simp only [zsBox] at hk
  rcases List.mem_append.1 hk with hk | hk
  · have hk := List.mem_singleton.1 hk; subst hk; unfold maxLen at b1; show ((ByteArray.size x1 : Nat) : Int) ≤ _; omega
  rcases List.mem_append.1 hk with hk | hk
  · have hk := List.mem_singleton.1 hk; subst hk; unfold maxLen at b2; show ((ByteArray.size x2 : Nat) : Int) ≤ _; omega
  rcases List.mem_append.1 hk with hk | hk
  · exact b4 k hk
  · simp at hk
theorem of_BoxS (c : List PV) (h : (Sh.slice 174 shBox).Is c) : ∃ xs, c = [.sl 5 (List.map eBox xs)] ∧ ∀ k ∈ zsBoxS xs, (k : Int) ≤ 9223372036854775807 := by
  obtain ⟨rows, rfl, hl, hrows⟩ := h
  obtain ⟨xs, rfl, hp⟩ := rows_of eBox (fun x => ∀ k ∈ zsBox x, (k : Int) ≤ 9223372036854775807) of_Box rows hrows
  have hl : xs.length ≤ maxLen := by simpa using hl
  refine ⟨xs, rfl, fun k hk => ?_⟩
  simp only [zsBoxS, List.mem_cons, List.mem_flatMap] at hk
  rcases hk with rfl | ⟨x, hx, hk⟩
  · unfold maxLen at hl; omega
  · exact hp x hx k hk
theorem of_State (r : List PV) (h : shState.Is r) : ∃ x : GState, r = eState x ∧ ∀ k ∈ zsState x, (k : Int) ≤ 9223372036854775807 := by
  obtain ⟨c0, r0, rfl, h0, hn⟩ := h
  have hn : r0 = [] := hn
  subst hn
  obtain ⟨x0, rfl, b0⟩ := of_BoxS _ h0
  refine ⟨⟨x0⟩, rfl, fun k hk => ?_⟩
  simp only [zsState] at hk
  rcases List.mem_append.1 hk with hk | hk
  · exact b0 k hk
  · simp at hk
theorem of_StringS (c : List PV) (h : (Sh.slice 9 .str).Is c) : ∃ xs, c = [.sl 1 (List.map eString xs)] ∧ ∀ k ∈ zsStringS xs, (k : Int) ≤ 9223372036854775807 := by
  obtain ⟨rows, rfl, hl, hrows⟩ := h
  obtain ⟨xs, rfl, hp⟩ := rows_of eString (fun x => x.size ≤ maxLen) (fun r h => by obtain ⟨n, rfl, h2⟩ := h; exact ⟨n, rfl, h2⟩) rows hrows
  have hl : xs.length ≤ maxLen := by simpa using hl
  refine ⟨xs, rfl, fun k hk => ?_⟩
  simp only [zsStringS, List.mem_cons, List.mem_flatMap] at hk
  rcases hk with rfl | ⟨x, hx, hk⟩
  · unfold maxLen at hl; omega
  · have hk := List.mem_singleton.1 hk
    have := hp x hx
    subst hk; unfold maxLen at this; omega
theorem of_Bring (r : List PV) (h : shBring.Is r) : ∃ x : GBring, r = eBring x ∧ ∀ k ∈ zsBring x, (k : Int) ≤ 9223372036854775807 := by
  obtain ⟨c0, r0, rfl, h0, c1, r1, rfl, h1, c2, r2, rfl, h2, c3, r3, rfl, h3, hn⟩ := h
  have hn : r3 = [] := hn
  subst hn
  obtain ⟨x0, rfl, _⟩ := h0
  obtain ⟨x1, rfl, b1⟩ := h1
  obtain ⟨x2, rfl, b2⟩ := of_StringS _ h2
  obtain ⟨x3, rfl, b3⟩ := of_StringS _ h3
  refine ⟨⟨x0, x1, x2, x3⟩, rfl, fun k hk => ?_⟩
  simp only [zsBring] at hk
  rcases List.mem_append.1 hk with hk | hk
  · have hk := List.mem_singleton.1 hk; subst hk; unfold maxLen at b1; show ((ByteArray.size x1 : Nat) : Int) ≤ _; omega
  rcases List.mem_append.1 hk with hk | hk
  · exact b2 k hk
  rcases List.mem_append.1 hk with hk | hk
  · exact b3 k hk
  · simp at hk
theorem of_BoolS (c : List PV) (h : (Sh.slice 4 .bool).Is c) : ∃ xs, c = [.sl 1 (List.map eBool xs)] ∧ ∀ k ∈ zsBoolS xs, (k : Int) ≤ 9223372036854775807 := by
  obtain ⟨rows, rfl, hl, hrows⟩ := h
  obtain ⟨xs, rfl, hp⟩ := rows_of eBool (fun _ => True) (fun r h => by obtain ⟨n, rfl⟩ := h; exact ⟨n, rfl, trivial⟩) rows hrows
  have hl : xs.length ≤ maxLen := by simpa using hl
  refine ⟨xs, rfl, fun k hk => ?_⟩
  have hk := List.mem_singleton.1 hk
  subst hk; unfold maxLen at hl; omega
theorem of_Fetch (r : List PV) (h : shFetch.Is r) : ∃ x : GFetch, r = eFetch x ∧ ∀ k ∈ zsFetch x, (k : Int) ≤ 9223372036854775807 := by
  obtain ⟨c0, r0, rfl, h0, c1, r1, rfl, h1, c2, r2, rfl, h2, c3, r3, rfl, h3, hn⟩ := h
  have hn : r3 = [] := hn
  subst hn
  obtain ⟨x0, rfl, _⟩ := h0
  obtain ⟨x1, rfl, b1⟩ := h1
  obtain ⟨x2, rfl, b2⟩ := of_MailS _ h2
  obtain ⟨x3, rfl, b3⟩ := of_BoolS _ h3
  refine ⟨⟨x0, x1, x2, x3⟩, rfl, fun k hk => ?_⟩
  simp only [zsFetch] at hk
  rcases List.mem_append.1 hk with hk | hk
  · have hk := List.mem_singleton.1 hk; subst hk; unfold maxLen at b1; show ((ByteArray.size x1 : Nat) : Int) ≤ _; omega
  rcases List.mem_append.1 hk with hk | hk
  · exact b2 k hk
  rcases List.mem_append.1 hk with hk | hk
  · exact b3 k hk
  · simp at hk
theorem of_IntS (c : List PV) (h : (Sh.slice 3 (.int .i64)).Is c) : ∃ xs, c = [.sl 1 (List.map eInt xs)] ∧ ∀ k ∈ zsIntS xs, (k : Int) ≤ 9223372036854775807 := by
  obtain ⟨rows, rfl, hl, hrows⟩ := h
  obtain ⟨xs, rfl, hp⟩ := rows_of eInt (fun _ => True) (fun r h => by obtain ⟨n, rfl, _⟩ := h; exact ⟨n, rfl, trivial⟩) rows hrows
  have hl : xs.length ≤ maxLen := by simpa using hl
  refine ⟨xs, rfl, fun k hk => ?_⟩
  have hk := List.mem_singleton.1 hk
  subst hk; unfold maxLen at hl; omega
theorem of_Look (r : List PV) (h : shLook.Is r) : ∃ x : GLook, r = eLook x ∧ ∀ k ∈ zsLook x, (k : Int) ≤ 9223372036854775807 := by
  obtain ⟨c0, r0, rfl, h0, c1, r1, rfl, h1, c2, r2, rfl, h2, c3, r3, rfl, h3, c4, r4, rfl, h4, hn⟩ := h
  have hn : r4 = [] := hn
  subst hn
  obtain ⟨x0, rfl, _⟩ := h0
  obtain ⟨x1, rfl, b1⟩ := h1
  obtain ⟨x2, rfl, b2⟩ := h2
  obtain ⟨x3, rfl, _⟩ := h3
  obtain ⟨x4, rfl, b4⟩ := of_IntS _ h4
  refine ⟨⟨x0, x1, x2, x3, x4⟩, rfl, fun k hk => ?_⟩
  simp only [zsLook] at hk
  rcases List.mem_append.1 hk with hk | hk
  · have hk := List.mem_singleton.1 hk; subst hk; unfold maxLen at b1; show ((ByteArray.size x1 : Nat) : Int) ≤ _; omega
  rcases List.mem_append.1 hk with hk | hk
  · have hk := List.mem_singleton.1 hk; subst hk; unfold maxLen at b2; show ((ByteArray.size x2 : Nat) : Int) ≤ _; omega
  rcases List.mem_append.1 hk with hk | hk
  · exact b4 k hk
  · simp at hk
theorem of_Session (r : List PV) (h : shSession.Is r) : ∃ x : GSession, r = eSession x ∧ ∀ k ∈ zsSession x, (k : Int) ≤ 9223372036854775807 := by
  obtain ⟨c0, r0, rfl, h0, c1, r1, rfl, h1, c2, r2, rfl, h2, c3, r3, rfl, h3, c4, r4, rfl, h4, c5, r5, rfl, h5, c6, r6, rfl, h6, hn⟩ := h
  have hn : r6 = [] := hn
  subst hn
  obtain ⟨x0, rfl, _⟩ := h0
  obtain ⟨x1, rfl, b1⟩ := h1
  obtain ⟨x2, rfl, b2⟩ := h2
  obtain ⟨x3, rfl⟩ := h3
  obtain ⟨x4, rfl, b4⟩ := of_Bring _ h4
  obtain ⟨x5, rfl, b5⟩ := of_Fetch _ h5
  obtain ⟨x6, rfl, b6⟩ := of_Look _ h6
  refine ⟨⟨x0, x1, x2, x3, x4, x5, x6⟩, rfl, fun k hk => ?_⟩
  simp only [zsSession] at hk
  rcases List.mem_append.1 hk with hk | hk
  · have hk := List.mem_singleton.1 hk; subst hk; unfold maxLen at b1; show ((ByteArray.size x1 : Nat) : Int) ≤ _; omega
  rcases List.mem_append.1 hk with hk | hk
  · have hk := List.mem_singleton.1 hk; subst hk; unfold maxLen at b2; show ((ByteArray.size x2 : Nat) : Int) ≤ _; omega
  rcases List.mem_append.1 hk with hk | hk
  · exact b4 k hk
  rcases List.mem_append.1 hk with hk | hk
  · exact b5 k hk
  rcases List.mem_append.1 hk with hk | hk
  · exact b6 k hk
  · simp at hk
theorem of_SessionS (c : List PV) (h : (Sh.slice 116 shSession).Is c) : ∃ xs, c = [.sl 17 (List.map eSession xs)] ∧ ∀ k ∈ zsSessionS xs, (k : Int) ≤ 9223372036854775807 := by
  obtain ⟨rows, rfl, hl, hrows⟩ := h
  obtain ⟨xs, rfl, hp⟩ := rows_of eSession (fun x => ∀ k ∈ zsSession x, (k : Int) ≤ 9223372036854775807) of_Session rows hrows
  have hl : xs.length ≤ maxLen := by simpa using hl
  refine ⟨xs, rfl, fun k hk => ?_⟩
  simp only [zsSessionS, List.mem_cons, List.mem_flatMap] at hk
  rcases hk with rfl | ⟨x, hx, hk⟩
  · unfold maxLen at hl; omega
  · exact hp x hx k hk
theorem of_Plain (r : List PV) (h : shPlain.Is r) : ∃ x : GPlain, r = ePlain x ∧ ∀ k ∈ zsPlain x, (k : Int) ≤ 9223372036854775807 := by
  obtain ⟨c0, r0, rfl, h0, c1, r1, rfl, h1, c2, r2, rfl, h2, hn⟩ := h
  have hn : r2 = [] := hn
  subst hn
  obtain ⟨x0, rfl, b0⟩ := of_State _ h0
  obtain ⟨x1, rfl, _⟩ := h1
  obtain ⟨x2, rfl, b2⟩ := of_SessionS _ h2
  refine ⟨⟨x0, x1, x2⟩, rfl, fun k hk => ?_⟩
  simp only [zsPlain] at hk
  rcases List.mem_append.1 hk with hk | hk
  · exact b0 k hk
  rcases List.mem_append.1 hk with hk | hk
  · exact b2 k hk
  · simp at hk
theorem of_Write (r : List PV) (h : shWrite.Is r) : ∃ x : GWrite, r = eWrite x ∧ ∀ k ∈ zsWrite x, (k : Int) ≤ 9223372036854775807 := by
  obtain ⟨c0, r0, rfl, h0, c1, r1, rfl, h1, hn⟩ := h
  have hn : r1 = [] := hn
  subst hn
  obtain ⟨x0, rfl, _⟩ := h0
  obtain ⟨x1, rfl, b1⟩ := h1
  refine ⟨⟨x0, x1⟩, rfl, fun k hk => ?_⟩
  simp only [zsWrite] at hk
  rcases List.mem_append.1 hk with hk | hk
  · have hk := List.mem_singleton.1 hk; subst hk; unfold maxLen at b1; show ((ByteArray.size x1 : Nat) : Int) ≤ _; omega
  · simp at hk
theorem of_WriteS (c : List PV) (h : (Sh.slice 218 shWrite).Is c) : ∃ xs, c = [.sl 2 (List.map eWrite xs)] ∧ ∀ k ∈ zsWriteS xs, (k : Int) ≤ 9223372036854775807 := by
  obtain ⟨rows, rfl, hl, hrows⟩ := h
  obtain ⟨xs, rfl, hp⟩ := rows_of eWrite (fun x => ∀ k ∈ zsWrite x, (k : Int) ≤ 9223372036854775807) of_Write rows hrows
  have hl : xs.length ≤ maxLen := by simpa using hl
  refine ⟨xs, rfl, fun k hk => ?_⟩
  simp only [zsWriteS, List.mem_cons, List.mem_flatMap] at hk
  rcases hk with rfl | ⟨x, hx, hk⟩
  · unfold maxLen at hl; omega
  · exact hp x hx k hk
theorem of_Disk (r : List PV) (h : shDisk.Is r) : ∃ x : GDisk, r = eDisk x ∧ ∀ k ∈ zsDisk x, (k : Int) ≤ 9223372036854775807 := by
  obtain ⟨c0, r0, rfl, h0, c1, r1, rfl, h1, hn⟩ := h
  have hn : r1 = [] := hn
  subst hn
  obtain ⟨x0, rfl, b0⟩ := of_StringS _ h0
  obtain ⟨x1, rfl, b1⟩ := of_WriteS _ h1
  refine ⟨⟨x0, x1⟩, rfl, fun k hk => ?_⟩
  simp only [zsDisk] at hk
  rcases List.mem_append.1 hk with hk | hk
  · exact b0 k hk
  rcases List.mem_append.1 hk with hk | hk
  · exact b1 k hk
  · simp at hk
theorem of_Rec (r : List PV) (h : shRec.Is r) : ∃ x : GRec, r = eRec x ∧ ∀ k ∈ zsRec x, (k : Int) ≤ 9223372036854775807 := by
  obtain ⟨c0, r0, rfl, h0, c1, r1, rfl, h1, c2, r2, rfl, h2, c3, r3, rfl, h3, c4, r4, rfl, h4, c5, r5, rfl, h5, c6, r6, rfl, h6, c7, r7, rfl, h7, hn⟩ := h
  have hn : r7 = [] := hn
  subst hn
  obtain ⟨x0, rfl, _⟩ := h0
  obtain ⟨x1, rfl, _⟩ := h1
  obtain ⟨x2, rfl, _⟩ := h2
  obtain ⟨x3, rfl, _⟩ := h3
  obtain ⟨x4, rfl, _⟩ := h4
  obtain ⟨x5, rfl, b5⟩ := h5
  obtain ⟨x6, rfl, b6⟩ := h6
  obtain ⟨x7, rfl, b7⟩ := h7
  refine ⟨⟨x0, x1, x2, x3, x4, x5, x6, x7⟩, rfl, fun k hk => ?_⟩
  simp only [zsRec] at hk
  rcases List.mem_append.1 hk with hk | hk
  · have hk := List.mem_singleton.1 hk; subst hk; unfold maxLen at b5; show ((ByteArray.size x5 : Nat) : Int) ≤ _; omega
  rcases List.mem_append.1 hk with hk | hk
  · have hk := List.mem_singleton.1 hk; subst hk; unfold maxLen at b6; show ((ByteArray.size x6 : Nat) : Int) ≤ _; omega
  rcases List.mem_append.1 hk with hk | hk
  · have hk := List.mem_singleton.1 hk; subst hk; unfold maxLen at b7; show ((ByteArray.size x7 : Nat) : Int) ≤ _; omega
  · simp at hk
theorem of_Item (r : List PV) (h : shItem.Is r) : ∃ x : GItem, r = eItem x ∧ ∀ k ∈ zsItem x, (k : Int) ≤ 9223372036854775807 := by
  obtain ⟨c0, r0, rfl, h0, c1, r1, rfl, h1, hn⟩ := h
  have hn : r1 = [] := hn
  subst hn
  obtain ⟨x0, rfl, _⟩ := h0
  obtain ⟨x1, rfl, b1⟩ := of_Rec _ h1
  refine ⟨⟨x0, x1⟩, rfl, fun k hk => ?_⟩
  simp only [zsItem] at hk
  rcases List.mem_append.1 hk with hk | hk
  · exact b1 k hk
  · simp at hk
theorem of_ItemS (c : List PV) (h : (Sh.slice 236 shItem).Is c) : ∃ xs, c = [.sl 9 (List.map eItem xs)] ∧ ∀ k ∈ zsItemS xs, (k : Int) ≤ 9223372036854775807 := by
  obtain ⟨rows, rfl, hl, hrows⟩ := h
  obtain ⟨xs, rfl, hp⟩ := rows_of eItem (fun x => ∀ k ∈ zsItem x, (k : Int) ≤ 9223372036854775807) of_Item rows hrows
  have hl : xs.length ≤ maxLen := by simpa using hl
  refine ⟨xs, rfl, fun k hk => ?_⟩
  simp only [zsItemS, List.mem_cons, List.mem_flatMap] at hk
  rcases hk with rfl | ⟨x, hx, hk⟩
  · unfold maxLen at hl; omega
  · exact hp x hx k hk
theorem of_Seg (r : List PV) (h : shSeg.Is r) : ∃ x : GSeg, r = eSeg x ∧ ∀ k ∈ zsSeg x, (k : Int) ≤ 9223372036854775807 := by
  obtain ⟨c0, r0, rfl, h0, c1, r1, rfl, h1, c2, r2, rfl, h2, c3, r3, rfl, h3, hn⟩ := h
  have hn : r3 = [] := hn
  subst hn
  obtain ⟨x0, rfl, _⟩ := h0
  obtain ⟨x1, rfl, _⟩ := h1
  obtain ⟨x2, rfl, _⟩ := h2
  obtain ⟨x3, rfl, b3⟩ := of_ItemS _ h3
  refine ⟨⟨x0, x1, x2, x3⟩, rfl, fun k hk => ?_⟩
  simp only [zsSeg] at hk
  rcases List.mem_append.1 hk with hk | hk
  · exact b3 k hk
  · simp at hk
theorem of_SegS (c : List PV) (h : (Sh.slice 192 shSeg).Is c) : ∃ xs, c = [.sl 4 (List.map eSeg xs)] ∧ ∀ k ∈ zsSegS xs, (k : Int) ≤ 9223372036854775807 := by
  obtain ⟨rows, rfl, hl, hrows⟩ := h
  obtain ⟨xs, rfl, hp⟩ := rows_of eSeg (fun x => ∀ k ∈ zsSeg x, (k : Int) ≤ 9223372036854775807) of_Seg rows hrows
  have hl : xs.length ≤ maxLen := by simpa using hl
  refine ⟨xs, rfl, fun k hk => ?_⟩
  simp only [zsSegS, List.mem_cons, List.mem_flatMap] at hk
  rcases hk with rfl | ⟨x, hx, hk⟩
  · unfold maxLen at hl; omega
  · exact hp x hx k hk
theorem of_Log (r : List PV) (h : shLog.Is r) : ∃ x : GLog, r = eLog x ∧ ∀ k ∈ zsLog x, (k : Int) ≤ 9223372036854775807 := by
  obtain ⟨c0, r0, rfl, h0, c1, r1, rfl, h1, c2, r2, rfl, h2, c3, r3, rfl, h3, c4, r4, rfl, h4, c5, r5, rfl, h5, c6, r6, rfl, h6, hn⟩ := h
  have hn : r6 = [] := hn
  subst hn
  obtain ⟨x0, rfl, b0⟩ := of_Disk _ h0
  obtain ⟨x1, rfl, _⟩ := h1
  obtain ⟨x2, rfl, b2⟩ := of_SegS _ h2
  obtain ⟨x3, rfl, _⟩ := h3
  obtain ⟨x4, rfl, _⟩ := h4
  obtain ⟨x5, rfl, _⟩ := h5
  obtain ⟨x6, rfl, _⟩ := h6
  refine ⟨⟨x0, x1, x2, x3, x4, x5, x6⟩, rfl, fun k hk => ?_⟩
  simp only [zsLog] at hk
  rcases List.mem_append.1 hk with hk | hk
  · exact b0 k hk
  rcases List.mem_append.1 hk with hk | hk
  · exact b2 k hk
  · simp at hk
theorem of_Store (r : List PV) (h : shStore.Is r) : ∃ x : GStore, r = eStore x ∧ ∀ k ∈ zsStore x, (k : Int) ≤ 9223372036854775807 := by
  obtain ⟨c0, r0, rfl, h0, c1, r1, rfl, h1, hn⟩ := h
  have hn : r1 = [] := hn
  subst hn
  obtain ⟨x0, rfl, b0⟩ := of_Log _ h0
  obtain ⟨x1, rfl, b1⟩ := of_IntS _ h1
  refine ⟨⟨x0, x1⟩, rfl, fun k hk => ?_⟩
  simp only [zsStore] at hk
  rcases List.mem_append.1 hk with hk | hk
  · exact b0 k hk
  rcases List.mem_append.1 hk with hk | hk
  · exact b1 k hk
  · simp at hk
theorem of_Server (r : List PV) (h : shServer.Is r) : ∃ x : GServer, r = eServer x ∧ ∀ k ∈ zsServer x, (k : Int) ≤ 9223372036854775807 := by
  obtain ⟨c0, r0, rfl, h0, c1, r1, rfl, h1, hn⟩ := h
  have hn : r1 = [] := hn
  subst hn
  obtain ⟨x0, rfl, b0⟩ := of_Store _ h0
  obtain ⟨x1, rfl, b1⟩ := of_SessionS _ h1
  refine ⟨⟨x0, x1⟩, rfl, fun k hk => ?_⟩
  simp only [zsServer] at hk
  rcases List.mem_append.1 hk with hk | hk
  · exact b0 k hk
  rcases List.mem_append.1 hk with hk | hk
  · exact b1 k hk
  · simp at hk

theorem lawReal (pvs : List PV) (h : ArgsIs [shPlain, shServer] pvs) : Real Tryz.prog 5 pvs (.bool true) := by
  obtain ⟨cs0, r0, hI0, rfl, h0⟩ := h
  obtain ⟨cs1, r1, hI1, rfl, h1⟩ := h0
  have h1 : r1 = [] := h1
  subst h1
  obtain ⟨x0, rfl, b0⟩ := of_Plain _ hI0
  obtain ⟨x1, rfl, b1⟩ := of_Server _ hI1
  exact r_laws_FnExactAlike std rfl x0 x1 b0 b1

set_option maxRecDepth 100000 in
theorem law_lifted (os : Os) (started : os.Started) (H : Type) (enc : TypeId × Value → H) :
    ReturnsInHanded {} Tryz.checked os 5 .any (Rows.fnExactAlikeSpec.pre6 enc Tryz.prog Tryz.f5 Rows.fnExactAlikeRow.domain false) (Rows.fnExactAlikeSpec.post enc Tryz.prog Tryz.f5 false true false false) := by
  refine returnsInHanded_of_change (C := Tryz.checked) Tryz.own started (by kernel_rfl) Tryz.func5
    (ChangeSpec.witness6 (enc := enc) (C := Tryz.checked) false ⟨#[], #[.agg #[.slice none 0 0, .int .i64 0, .slice none 0 0], .agg #[.slice none 0 0, .slice none 0 0, .int .i64 0, .slice none 0 0, .int .i64 0, .int .i64 0, .int .i64 0, .int .i64 0, .slice none 0 0, .slice none 0 0]], []⟩ 8 (by kernel_rfl) (by kernel_rfl) (by kernel_rfl) (by kernel_rfl)) ?_
  intro W base args ds gs before hval hW hcnd _
  refine calls_true (P := Tryz.prog) (ss := [shPlain, shServer]) (tr := 4) Tryz.laidOut rfl ?_ rfl (by kernel_rfl) (allShB_ok _ _ (by kernel_rfl)) ?_ lawReal (Inv.free W (by kernel_rfl) (by kernel_rfl)) hval hW
  · intro t ht
    have ht : t ∈ [59, 34] := ht
    simp only [List.mem_cons, List.not_mem_nil, or_false] at ht
    rcases ht with rfl | rfl
    · exact ⟨by kernel_rfl, of_decide_eq_true (by kernel_rfl)⟩
    · exact ⟨by kernel_rfl, of_decide_eq_true (by kernel_rfl)⟩
  · intro ds hds
    match ds, hds with
    | [d0, d1], _ => rfl

theorem alike_holds : Rows.FnExactAlikeSaid :=
  OpenClaim.holds_of_wide 5 Tryz.f5 rfl rfl rfl rfl rfl rfl rfl ⟨rfl, rfl, rfl, rfl, rfl⟩ rfl rfl rfl rfl rfl (by kernel_rfl) Tryz.func5 (by kernel_rfl)
    (of_decide_eq_true (by kernel_rfl)) (by unfold Func.isWrapper; rw [if_neg (by decide +kernel)]; exact ⟨rfl, rfl⟩)
    (fun os started H enc _ => law_lifted os started H enc)

#print axioms alike_holds
end Go.Proofs.YtjbokkoiicoahaaGreat

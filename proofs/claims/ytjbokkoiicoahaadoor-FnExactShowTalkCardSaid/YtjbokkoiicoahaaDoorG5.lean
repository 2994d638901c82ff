/- Walks: ShowTalk. -/
import Derived.Test.YtjbokkoiicoahaaDoorG1
namespace Go.Av
open Go Go.Proofs
set_option maxRecDepth 100000
set_option maxHeartbeats 4000000
set_option linter.unusedVariables false
set_option linter.unusedSimpArgs false
theorem replaceK1 (c : UInt8) : ∀ (s : List UInt8), Lib.replaceK [c] [] (s.count c) s = s.filter (· != c)
  | [] => rfl
  | b :: l => by
    have ih := replaceK1 c l
    by_cases hb : b = c
    · subst hb
      rw [List.count_cons_self, List.filter_cons_of_neg (by simp), ← ih]
      have h0 : Lib.index (b :: l) [b] = ((0 : Nat) : Int) := by simp [Lib.index, List.isPrefixOf]
      rw [Lib.replaceK_hit _ _ _ _ 0 h0]
      rfl
    · have hc : (b :: l).count c = l.count c := List.count_cons_of_ne hb
      rw [hc, List.filter_cons_of_pos (by simpa using hb), ← ih]
      cases hk : l.count c with
      | zero => rfl
      | succ k =>
        obtain ⟨i, hi⟩ := Lib.index_of_count (s := l) (old := [c]) (by rw [Lib.count_one, hk]; omega)
        have h1 : Lib.index (b :: l) [c] = ((i + 1 : Nat) : Int) := by
          rw [Lib.index, if_neg (by simp [List.isPrefixOf]; exact fun h => hb h.symm), hi, if_neg (by simp)]
          omega
        rw [Lib.replaceK_hit _ _ _ _ _ h1, Lib.replaceK_hit _ _ _ _ _ hi]
        simp
theorem replaceAll1 (s : List UInt8) (c : UInt8) : Lib.replaceAll s [c] [] = s.filter (· != c) := by
  unfold Lib.replaceAll Lib.replace
  rw [if_neg (by simp)]
  have e : Lib.replaceNum s [c] (-1) = s.count c := by
    unfold Lib.replaceNum
    rw [if_pos (.inl (by decide)), Lib.count_one]
  rw [e, replaceK1]
def crT (o : ByteArray) (q : Nat) : ByteArray := bOf ((o.data.toList.take q).filter (· != 13))
def noCr (o : ByteArray) : ByteArray := bOf (o.data.toList.filter (· != 13))
theorem repl_cr (o : ByteArray) : replB o (ByteArray.mk #[13]) (ByteArray.mk #[]) = noCr o := by
  show bOf (Lib.replaceAll o.data.toList [13] []) = _
  rw [replaceAll1]; rfl
theorem byte_at {o : ByteArray} {q : Nat} (h : q < o.size) : ∃ b, o.data.toList[q]? = some b ∧ o[q]? = some b := by
  have h' : q < o.data.toList.length := by simpa using h
  refine ⟨o.data.toList[q], List.getElem?_eq_getElem h', ?_⟩
  rw [getElem?_pos o q h]
  rfl
theorem ext_one {o : ByteArray} {q : Nat} {b : UInt8} (h : o.data.toList[q]? = some b) : o.extract q (q + 1) = bOf [b] := by
  apply ByteArray.ext
  rw [ByteArray.data_extract]
  apply Array.ext'
  simp only [bOf]
  rw [Array.toList_extract]
  simp only [List.extract_eq_take_drop]
  rw [Nat.add_sub_cancel_left]
  obtain ⟨hl, rfl⟩ := List.getElem?_eq_some_iff.1 h
  rw [List.drop_eq_getElem_cons hl]
  rfl
theorem byteAt_nat {o : ByteArray} {q : Nat} {b : UInt8} (h : o[q]? = some b) : byteAt o (q : Int) = b.toNat := by
  unfold byteAt
  rw [Int.toNat_natCast, h]
theorem cr_t {o : ByteArray} {q : Nat} (h : q < o.size) (hb : byteAt o (q : Int) ≠ 13) : crT o (q + 1) = crT o q ++ o.extract q (q + 1) := by
  obtain ⟨b, h1, h2⟩ := byte_at h
  rw [byteAt_nat h2] at hb
  have hb' : b ≠ 13 := fun e => hb (by subst e; rfl)
  rw [ext_one h1, crT, crT, bOf_app, List.take_add_one, h1, Option.toList_some, List.filter_append, List.filter_cons_of_pos (by simpa using hb')]; rfl
theorem cr_f {o : ByteArray} {q : Nat} (h : q < o.size) (hb : byteAt o (q : Int) = 13) : crT o (q + 1) = crT o q := by
  obtain ⟨b, h1, h2⟩ := byte_at h
  rw [byteAt_nat h2] at hb
  have hb' : b = 13 := by
    apply UInt8.toNat_inj.1
    have e : (13 : UInt8).toNat = 13 := rfl
    omega
  subst hb'
  rw [crT, crT, List.take_add_one, h1, Option.toList_some, List.filter_append]
  simp
theorem cr_0 (o : ByteArray) (S : ByteArray) : S ++ crT o 0 = S := by
  apply ByteArray.ext
  rw [ByteArray.data_append]
  show S.data ++ #[] = S.data
  simp
theorem cr_end {o : ByteArray} {q : Nat} (h : o.size ≤ q) : crT o q = noCr o := by
  rw [crT, noCr, List.take_of_length_le (by simpa using h)]
theorem cr_size (o : ByteArray) (q : Nat) : (crT o q).size ≤ o.size := by
  rw [crT, bOf_size]
  have h1 := List.length_filter_le (fun b : UInt8 => b != 13) (o.data.toList.take q)
  have h2 : (List.take q o.data.toList).length ≤ o.data.toList.length := by rw [List.length_take]; exact Nat.min_le_right _ _
  have h3 : o.data.toList.length = o.size := by simp
  omega
theorem noCr_size (o : ByteArray) : (noCr o).size ≤ o.size := by rw [← cr_end (Nat.le_refl _)]; exact cr_size o _
theorem ext_size (o : ByteArray) (a b : Nat) : (o.extract a b).size ≤ o.size := by rw [ByteArray.size_extract]; omega
def ddB : ByteArray := ByteArray.mk #[45, 45, 32]
def talkT (x : GSession) : ByteArray := ((ddB ++ figB x.Kind) ++ ByteArray.mk #[10]) ++ noCr x.Out
def talkC (xs : List GSession) : ByteArray := xs.foldl (fun s x => s ++ talkT x) (ByteArray.mk #[])
theorem talkC_at {xs : List GSession} {i : Nat} {x : GSession} (hx : xs[i]? = some x) : talkC (xs.take (i + 1)) = talkC (xs.take i) ++ talkT x := by
  rw [List.take_add_one, hx]; simp [talkC, List.foldl_append]
def rgSession (x : GSession) : Prop := i64 x.Kind
theorem talkT_size {x : GSession} (h : rgSession x) (ho : x.Out.size ≤ 1048576) : (talkT x).size ≤ 2000000 := by
  have h1 := figB_size x.Kind h
  have h2 := noCr_size x.Out
  have e1 : ddB.size = 3 := rfl
  have e2 : (ByteArray.mk #[10]).size = 1 := rfl
  unfold talkT
  simp only [ByteArray.size_append, e1, e2]
  omega
theorem talkF_size : ∀ (xs : List GSession), (∀ x ∈ xs, rgSession x ∧ x.Out.size ≤ 1048576) → ∀ (h : ByteArray), (xs.foldl (fun s x => s ++ talkT x) h).size ≤ h.size + 2000000 * xs.length
  | [], _, h => by simp
  | x :: xs, hx, h => by
    have h1 := talkF_size xs (fun m hm => hx m (List.mem_cons_of_mem _ hm)) (h ++ talkT x)
    have h2 := talkT_size (hx x List.mem_cons_self).1 (hx x List.mem_cons_self).2
    rw [ByteArray.size_append] at h1
    show (List.foldl _ (h ++ talkT x) xs).size ≤ _
    rw [List.length_cons]
    omega
theorem talkC_size (xs : List GSession) (h : ∀ x ∈ xs, rgSession x ∧ x.Out.size ≤ 1048576) : (talkC xs).size ≤ 2000000 * xs.length := by
  have := talkF_size xs h (ByteArray.mk #[])
  have e : (ByteArray.mk #[]).size = 0 := rfl
  unfold talkC; omega

def S13_1 (p0 : ByteArray) (p1 : List (List PV)) (p2 : Int) (p3 : Int) : St := { sl := [.bad, .bad, .bad, .str p0, .bad, .bad, .sl 17 p1, .int .i64 p2, .int .i64 p3, .bad, .bad, .bad, .bad, .bad, .bad, .bad, .bad, .bad, .bad, .bad, .bad, .bad, .bad, .bad, .bad, .bad], bl := [] }
theorem r_impl_ShowTalk (A : Alg) (hA : A = std) (xs : List GSession) (hz : ∀ q ∈ zsSessionS xs, q ≤ 1048576) (hr : ∀ x ∈ xs, rgSession x) : Real Tryd.prog 13 [.sl 17 (List.map eSession xs)] (.str (talkC xs)) := by
  obtain ⟨xs_r, hxs_r⟩ : ∃ r, r = xs.map eSession := ⟨_, rfl⟩
  have lxs_r : A.rlen xs_r = (List.length xs : Int) := rlen_map hA hxs_r
  refine real_args (args' := [.sl 17 xs_r]) (by subst hxs_r; rfl) ?_
  have nx : List.length xs ≤ 1048576 := hz _ (by simp [zsSessionS])
  have hmm : ∀ x ∈ xs, rgSession x ∧ ByteArray.size x.Out ≤ 1048576 := fun x hx => ⟨hr x hx, hz _ (List.mem_cons_of_mem _ (List.mem_flatMap.2 ⟨_, hx, by simp [zsSession]⟩))⟩
  have e3 : (ByteArray.mk #[45, 45, 32]).size = 3 := rfl
  have e1 : (ByteArray.mk #[10]).size = 1 := rfl
  refine real tyOk Tryd.func13 (by kernel_rfl) (afun_of rfl ?_)
  refine go_seq ?_
  refine go_reg ?_
  refine run_aops hA 1 _ _ _ _ (by cbv) ?_
  refine ops_done ?_
  refine go_seq ?_
  refine go_reg ?_
  refine run_aops hA 1 _ _ _ _ (by cbv) ?_
  refine ops_done ?_
  refine go_seq ?_
  refine go_seq ?_
  refine go_reg ?_
  refine run_aops hA 3 _ _ _ _ (by cbv) ?_
  refine ops_done ?_
  refine go_block ?_
  refine go_loopE (fun σ m => ∃ (i : Nat) (n : Int) (S : ByteArray), σ = (S13_1 S xs_r (A.rlen xs_r) n) ∧ (n = (i : Int) ∧ i ≤ List.length xs ∧ S = talkC (xs.take i)) ∧ m = List.length xs - i) _ [] [3, 6, 7, 8] [] (S13_1 (ByteArray.mk #[]) xs_r (A.rlen xs_r) 0) rfl (by cbv) ⟨0, 0, (ByteArray.mk #[]), rfl, ?_, rfl⟩ (fun σ m hI => ?_)
  · skip
    exact ⟨rfl, Nat.zero_le _, rfl⟩
  obtain ⟨i, n, S, rfl, ⟨hn, hi, hS⟩, rfl⟩ := hI
  have hSz : ByteArray.size S ≤ 3000000000000 := by
    have := talkC_size (xs.take i) (fun m hm => hmm m (List.mem_of_mem_take hm))
    rw [← hS, List.length_take] at this
    omega
  refine go_seq ?_
  refine go_reg ?_
  refine run_aops hA 1 _ _ _ _ (by cbv) ?_
  refine ops_done ?_
  refine go_seq ?_
  refine go_cond rfl (fun c1 => ?_) (fun c1 => ?_)
  · skip
    have ec1 : n < (A.rlen xs_r) := lss_t hA c1
    refine go_skip ?_
    refine go_seq ?_
    refine go_block ?_
    refine go_seq ?_
    refine go_reg ?_
    have h0x2 : (0 : Int) ≤ n := by
      omega
    have hlx2 : (Int.toNat n) < List.length xs := by
      omega
    obtain ⟨x2, hx2⟩ : ∃ x, (xs)[(Int.toNat n)]? = some x := ⟨_, List.getElem?_eq_getElem hlx2⟩
    have hmx2 := List.mem_of_getElem? hx2
    obtain ⟨x2_Kind, x2_In, x2_Out, x2_Over, ⟨x2_Bring_State, x2_Bring_From, x2_Bring_To, x2_Bring_Data⟩, ⟨x2_Fetch_State, x2_Fetch_User, x2_Fetch_Mails, x2_Fetch_Gone⟩, ⟨x2_Look_State, x2_Look_User, x2_Look_Box, x2_Look_Valid, x2_Look_Uids⟩⟩ := x2
    obtain ⟨x2_Bring_To_r, hx2_Bring_To_r⟩ : ∃ r, r = x2_Bring_To.map eString := ⟨_, rfl⟩
    have lx2_Bring_To_r : A.rlen x2_Bring_To_r = (List.length x2_Bring_To : Int) := rlen_map hA hx2_Bring_To_r
    obtain ⟨x2_Bring_Data_r, hx2_Bring_Data_r⟩ : ∃ r, r = x2_Bring_Data.map eString := ⟨_, rfl⟩
    have lx2_Bring_Data_r : A.rlen x2_Bring_Data_r = (List.length x2_Bring_Data : Int) := rlen_map hA hx2_Bring_Data_r
    obtain ⟨x2_Fetch_Mails_r, hx2_Fetch_Mails_r⟩ : ∃ r, r = x2_Fetch_Mails.map eMail := ⟨_, rfl⟩
    have lx2_Fetch_Mails_r : A.rlen x2_Fetch_Mails_r = (List.length x2_Fetch_Mails : Int) := rlen_map hA hx2_Fetch_Mails_r
    obtain ⟨x2_Fetch_Gone_r, hx2_Fetch_Gone_r⟩ : ∃ r, r = x2_Fetch_Gone.map eBool := ⟨_, rfl⟩
    have lx2_Fetch_Gone_r : A.rlen x2_Fetch_Gone_r = (List.length x2_Fetch_Gone : Int) := rlen_map hA hx2_Fetch_Gone_r
    obtain ⟨x2_Look_Uids_r, hx2_Look_Uids_r⟩ : ∃ r, r = x2_Look_Uids.map eInt := ⟨_, rfl⟩
    have lx2_Look_Uids_r : A.rlen x2_Look_Uids_r = (List.length x2_Look_Uids : Int) := rlen_map hA hx2_Look_Uids_r
    have hrx2 : xs_r[(Int.toNat n)]? = some [.int .i64 x2_Kind, .str x2_In, .str x2_Out, .bool x2_Over, .int .i64 x2_Bring_State, .str x2_Bring_From, .sl 1 x2_Bring_To_r, .sl 1 x2_Bring_Data_r, .int .i64 x2_Fetch_State, .str x2_Fetch_User, .sl 3 x2_Fetch_Mails_r, .sl 1 x2_Fetch_Gone_r, .int .i64 x2_Look_State, .str x2_Look_User, .str x2_Look_Box, .int .i64 x2_Look_Valid, .sl 1 x2_Look_Uids_r] := by
      subst hx2_Bring_To_r hx2_Bring_Data_r hx2_Fetch_Mails_r hx2_Fetch_Gone_r hx2_Look_Uids_r; exact map_at eSession hxs_r hx2
    have hix2 := hx2
    rw [hn] at hix2
    have hix2 : (xs)[i]? = some (⟨x2_Kind, x2_In, x2_Out, x2_Over, ⟨x2_Bring_State, x2_Bring_From, x2_Bring_To, x2_Bring_Data⟩, ⟨x2_Fetch_State, x2_Fetch_User, x2_Fetch_Mails, x2_Fetch_Gone⟩, ⟨x2_Look_State, x2_Look_User, x2_Look_Box, x2_Look_Valid, x2_Look_Uids⟩⟩ : GSession) := hix2
    have hgx2 : i64 x2_Kind := (hmm _ hmx2).1
    have hox2 : ByteArray.size x2_Out ≤ 1048576 := (hmm _ hmx2).2
    have hfkx2 := figB_size _ hgx2
    have hnox2 := noCr_size x2_Out
    have zlx2 := slen_eq hA x2_Out
    refine ops_step rfl rfl (idx_sl rfl rfl rfl rfl rfl h0x2 rfl hrx2) ?_
    refine run_aops hA 3 _ _ _ _ (by cbv) ?_
    refine ops_done ?_
    obtain ⟨m3, hm3⟩ : ∃ v : Int, v = max 0 x2_Kind := ⟨_, rfl⟩
    obtain ⟨v16_4, hv16_4, hc5⟩ : ∃ (v16_4 : ByteArray), v16_4 = (itoaB m3) ∧ Real Tryd.prog 26 [.int .i64 m3] (.str v16_4) := ⟨_, rfl, by exact r_impl_Decimal A hA m3 (by unfold i64 at *; omega)⟩
    obtain ⟨s6, hs6⟩ : ∃ s : ByteArray, s = (ByteArray.mk #[45, 45, 32]) ++ v16_4 := ⟨_, rfl⟩
    have zs6 : ByteArray.size s6 = ByteArray.size (ByteArray.mk #[45, 45, 32]) + ByteArray.size v16_4 := by rw [hs6]; exact ByteArray.size_append
    have bs6 : ByteArray.size (ByteArray.mk #[45, 45, 32]) + ByteArray.size v16_4 ≤ 140737488355328 := by
      have jv16_4 : ByteArray.size v16_4 ≤ 20 := by
        rw [hv16_4, hm3]; exact figB_size _ (by assumption)
      omega
    obtain ⟨s7, hs7⟩ : ∃ s : ByteArray, s = s6 ++ (ByteArray.mk #[10]) := ⟨_, rfl⟩
    have zs7 : ByteArray.size s7 = ByteArray.size s6 + ByteArray.size (ByteArray.mk #[10]) := by rw [hs7]; exact ByteArray.size_append
    have bs7 : ByteArray.size s6 + ByteArray.size (ByteArray.mk #[10]) ≤ 140737488355328 := by
      have jv16_4 : ByteArray.size v16_4 ≤ 20 := by
        rw [hv16_4, hm3]; exact figB_size _ (by assumption)
      omega
    obtain ⟨v21_8, hv21_8, hc9⟩ : ∃ (v21_8 : ByteArray), v21_8 = (replB x2_Out (ByteArray.mk #[13]) (ByteArray.mk #[])) ∧ Real Tryd.prog 27 [.str x2_Out, .str (ByteArray.mk #[13]), .str (ByteArray.mk #[])] (.str v21_8) := ⟨_, rfl, by exact rRepl A hA x2_Out (ByteArray.mk #[13]) (ByteArray.mk #[]) (by omega) (by decide) (by show _ + _ * 0 ≤ _; omega)⟩
    obtain ⟨s10, hs10⟩ : ∃ s : ByteArray, s = s7 ++ v21_8 := ⟨_, rfl⟩
    have zs10 : ByteArray.size s10 = ByteArray.size s7 + ByteArray.size v21_8 := by rw [hs10]; exact ByteArray.size_append
    have bs10 : ByteArray.size s7 + ByteArray.size v21_8 ≤ 140737488355328 := by
      have jv16_4 : ByteArray.size v16_4 ≤ 20 := by
        rw [hv16_4, hm3]; exact figB_size _ (by assumption)
      have jv21_8 : ByteArray.size v21_8 ≤ 1048576 := by
        rw [hv21_8, repl_cr]; omega
      omega
    obtain ⟨s11, hs11⟩ : ∃ s : ByteArray, s = S ++ s10 := ⟨_, rfl⟩
    have zs11 : ByteArray.size s11 = ByteArray.size S + ByteArray.size s10 := by rw [hs11]; exact ByteArray.size_append
    have bs11 : ByteArray.size S + ByteArray.size s10 ≤ 140737488355328 := by
      have jv16_4 : ByteArray.size v16_4 ≤ 20 := by
        rw [hv16_4, hm3]; exact figB_size _ (by assumption)
      have jv21_8 : ByteArray.size v21_8 ≤ 1048576 := by
        rw [hv21_8, repl_cr]; omega
      omega
    refine go_drawE [0, 1, 2, 3, 4, 5, 6, 7, 8, 9, 10, 11, 12] (by cbv) rfl rfl ({ sl := [.bad, .bad, .bad, .str s11, .bad, .pt 5 0 0, .sl 17 xs_r, .int .i64 (A.rlen xs_r), .int .i64 n, .bool (A.cmp .lss n (A.rlen xs_r)), .rd [.int .i64 x2_Kind, .str x2_In, .str x2_Out, .bool x2_Over, .int .i64 x2_Bring_State, .str x2_Bring_From, .sl 1 x2_Bring_To_r, .sl 1 x2_Bring_Data_r, .int .i64 x2_Fetch_State, .str x2_Fetch_User, .sl 3 x2_Fetch_Mails_r, .sl 1 x2_Fetch_Gone_r, .int .i64 x2_Look_State, .str x2_Look_User, .str x2_Look_Box, .int .i64 x2_Look_Valid, .sl 1 x2_Look_Uids_r], .agg [.int .i64 x2_Kind, .str x2_In, .str x2_Out, .bool x2_Over, .int .i64 x2_Bring_State, .str x2_Bring_From, .sl 1 x2_Bring_To_r, .sl 1 x2_Bring_Data_r, .int .i64 x2_Fetch_State, .str x2_Fetch_User, .sl 3 x2_Fetch_Mails_r, .sl 1 x2_Fetch_Gone_r, .int .i64 x2_Look_State, .str x2_Look_User, .str x2_Look_Box, .int .i64 x2_Look_Valid, .sl 1 x2_Look_Uids_r], .str S, .pt 5 0 0, .int .i64 x2_Kind, .int .i64 m3, .str v16_4, .str s6, .str s7, .pt 5 0 2, .str x2_Out, .str v21_8, .str s10, .str s11, .bad, .bad], bl := [(5, ⟨.var, 17, [[.int .i64 x2_Kind, .str x2_In, .str x2_Out, .bool x2_Over, .int .i64 x2_Bring_State, .str x2_Bring_From, .sl 1 x2_Bring_To_r, .sl 1 x2_Bring_Data_r, .int .i64 x2_Fetch_State, .str x2_Fetch_User, .sl 3 x2_Fetch_Mails_r, .sl 1 x2_Fetch_Gone_r, .int .i64 x2_Look_State, .str x2_Look_User, .str x2_Look_Box, .int .i64 x2_Look_Valid, .sl 1 x2_Look_Uids_r]]⟩)] } : St) (fun R K hR hF => ?_) ?_
    · skip
      have H_0_1_2_3_4_5_6_7_8_9_10_11 : dwp T ⟨Real Tryd.prog, RealM Tryd.prog, RealC Tryd.prog⟩ R K 1 [true, true, true, true, true, true, true, true, true, true, true, true, false] ({ sl := [.bad, .bad, .bad, .str S, .bad, .pt 5 0 0, .sl 17 xs_r, .int .i64 (A.rlen xs_r), .int .i64 n, .bool (A.cmp .lss n (A.rlen xs_r)), .rd [.int .i64 x2_Kind, .str x2_In, .str x2_Out, .bool x2_Over, .int .i64 x2_Bring_State, .str x2_Bring_From, .sl 1 x2_Bring_To_r, .sl 1 x2_Bring_Data_r, .int .i64 x2_Fetch_State, .str x2_Fetch_User, .sl 3 x2_Fetch_Mails_r, .sl 1 x2_Fetch_Gone_r, .int .i64 x2_Look_State, .str x2_Look_User, .str x2_Look_Box, .int .i64 x2_Look_Valid, .sl 1 x2_Look_Uids_r], .agg [.int .i64 x2_Kind, .str x2_In, .str x2_Out, .bool x2_Over, .int .i64 x2_Bring_State, .str x2_Bring_From, .sl 1 x2_Bring_To_r, .sl 1 x2_Bring_Data_r, .int .i64 x2_Fetch_State, .str x2_Fetch_User, .sl 3 x2_Fetch_Mails_r, .sl 1 x2_Fetch_Gone_r, .int .i64 x2_Look_State, .str x2_Look_User, .str x2_Look_Box, .int .i64 x2_Look_Valid, .sl 1 x2_Look_Uids_r], .str S, .pt 5 0 0, .int .i64 x2_Kind, .int .i64 m3, .str v16_4, .str s6, .str s7, .pt 5 0 2, .str x2_Out, .str v21_8, .str s10, .str s11, .bad, .bad], bl := [(5, ⟨.var, 17, [[.int .i64 x2_Kind, .str x2_In, .str x2_Out, .bool x2_Over, .int .i64 x2_Bring_State, .str x2_Bring_From, .sl 1 x2_Bring_To_r, .sl 1 x2_Bring_Data_r, .int .i64 x2_Fetch_State, .str x2_Fetch_User, .sl 3 x2_Fetch_Mails_r, .sl 1 x2_Fetch_Gone_r, .int .i64 x2_Look_State, .str x2_Look_User, .str x2_Look_Box, .int .i64 x2_Look_Valid, .sl 1 x2_Look_Uids_r]]⟩)] } : St) := by
        subst hR
        refine dwp_next (is := [0, 1, 2, 3, 4, 5, 6, 7, 8, 9, 10, 11, 12]) rfl ?_
        refine allRdy_none rfl ?_
        refine allRdy_none rfl ?_
        refine allRdy_none rfl ?_
        refine allRdy_none rfl ?_
        refine allRdy_none rfl ?_
        refine allRdy_none rfl ?_
        refine allRdy_none rfl ?_
        refine allRdy_none rfl ?_
        refine allRdy_none rfl ?_
        refine allRdy_none rfl ?_
        refine allRdy_none rfl ?_
        refine allRdy_none rfl ?_
        refine allRdy_some rfl ?_ ?_
        · skip
          refine run_aops hA 1 _ _ _ _ (by cbv) ?_
          exact ops_done (dwp_to [] (by cbv) rfl (dwp_last hF))
        exact trivial
      have H_0_1_2_3_4_5_6_7_8_9_10 : dwp T ⟨Real Tryd.prog, RealM Tryd.prog, RealC Tryd.prog⟩ R K 2 [true, true, true, true, true, true, true, true, true, true, true, false, false] ({ sl := [.bad, .bad, .bad, .str S, .bad, .pt 5 0 0, .sl 17 xs_r, .int .i64 (A.rlen xs_r), .int .i64 n, .bool (A.cmp .lss n (A.rlen xs_r)), .rd [.int .i64 x2_Kind, .str x2_In, .str x2_Out, .bool x2_Over, .int .i64 x2_Bring_State, .str x2_Bring_From, .sl 1 x2_Bring_To_r, .sl 1 x2_Bring_Data_r, .int .i64 x2_Fetch_State, .str x2_Fetch_User, .sl 3 x2_Fetch_Mails_r, .sl 1 x2_Fetch_Gone_r, .int .i64 x2_Look_State, .str x2_Look_User, .str x2_Look_Box, .int .i64 x2_Look_Valid, .sl 1 x2_Look_Uids_r], .agg [.int .i64 x2_Kind, .str x2_In, .str x2_Out, .bool x2_Over, .int .i64 x2_Bring_State, .str x2_Bring_From, .sl 1 x2_Bring_To_r, .sl 1 x2_Bring_Data_r, .int .i64 x2_Fetch_State, .str x2_Fetch_User, .sl 3 x2_Fetch_Mails_r, .sl 1 x2_Fetch_Gone_r, .int .i64 x2_Look_State, .str x2_Look_User, .str x2_Look_Box, .int .i64 x2_Look_Valid, .sl 1 x2_Look_Uids_r], .str S, .pt 5 0 0, .int .i64 x2_Kind, .int .i64 m3, .str v16_4, .str s6, .str s7, .pt 5 0 2, .str x2_Out, .str v21_8, .str s10, .bad, .bad, .bad], bl := [(5, ⟨.var, 17, [[.int .i64 x2_Kind, .str x2_In, .str x2_Out, .bool x2_Over, .int .i64 x2_Bring_State, .str x2_Bring_From, .sl 1 x2_Bring_To_r, .sl 1 x2_Bring_Data_r, .int .i64 x2_Fetch_State, .str x2_Fetch_User, .sl 3 x2_Fetch_Mails_r, .sl 1 x2_Fetch_Gone_r, .int .i64 x2_Look_State, .str x2_Look_User, .str x2_Look_Box, .int .i64 x2_Look_Valid, .sl 1 x2_Look_Uids_r]]⟩)] } : St) := by
        subst hR
        refine dwp_next (is := [0, 1, 2, 3, 4, 5, 6, 7, 8, 9, 10, 11, 12]) rfl ?_
        refine allRdy_none rfl ?_
        refine allRdy_none rfl ?_
        refine allRdy_none rfl ?_
        refine allRdy_none rfl ?_
        refine allRdy_none rfl ?_
        refine allRdy_none rfl ?_
        refine allRdy_none rfl ?_
        refine allRdy_none rfl ?_
        refine allRdy_none rfl ?_
        refine allRdy_none rfl ?_
        refine allRdy_none rfl ?_
        refine allRdy_some rfl ?_ ?_
        · skip
          refine ops_step rfl rfl (str_add rfl rfl rfl hs11 bs11) ?_
          exact ops_done (dwp_to [] (by cbv) rfl H_0_1_2_3_4_5_6_7_8_9_10_11)
        refine allRdy_none rfl ?_
        exact trivial
      have H_0_1_2_3_4_5_6_7_8_9 : dwp T ⟨Real Tryd.prog, RealM Tryd.prog, RealC Tryd.prog⟩ R K 3 [true, true, true, true, true, true, true, true, true, true, false, false, false] ({ sl := [.bad, .bad, .bad, .str S, .bad, .pt 5 0 0, .sl 17 xs_r, .int .i64 (A.rlen xs_r), .int .i64 n, .bool (A.cmp .lss n (A.rlen xs_r)), .rd [.int .i64 x2_Kind, .str x2_In, .str x2_Out, .bool x2_Over, .int .i64 x2_Bring_State, .str x2_Bring_From, .sl 1 x2_Bring_To_r, .sl 1 x2_Bring_Data_r, .int .i64 x2_Fetch_State, .str x2_Fetch_User, .sl 3 x2_Fetch_Mails_r, .sl 1 x2_Fetch_Gone_r, .int .i64 x2_Look_State, .str x2_Look_User, .str x2_Look_Box, .int .i64 x2_Look_Valid, .sl 1 x2_Look_Uids_r], .agg [.int .i64 x2_Kind, .str x2_In, .str x2_Out, .bool x2_Over, .int .i64 x2_Bring_State, .str x2_Bring_From, .sl 1 x2_Bring_To_r, .sl 1 x2_Bring_Data_r, .int .i64 x2_Fetch_State, .str x2_Fetch_User, .sl 3 x2_Fetch_Mails_r, .sl 1 x2_Fetch_Gone_r, .int .i64 x2_Look_State, .str x2_Look_User, .str x2_Look_Box, .int .i64 x2_Look_Valid, .sl 1 x2_Look_Uids_r], .str S, .pt 5 0 0, .int .i64 x2_Kind, .int .i64 m3, .str v16_4, .str s6, .str s7, .pt 5 0 2, .str x2_Out, .str v21_8, .bad, .bad, .bad, .bad], bl := [(5, ⟨.var, 17, [[.int .i64 x2_Kind, .str x2_In, .str x2_Out, .bool x2_Over, .int .i64 x2_Bring_State, .str x2_Bring_From, .sl 1 x2_Bring_To_r, .sl 1 x2_Bring_Data_r, .int .i64 x2_Fetch_State, .str x2_Fetch_User, .sl 3 x2_Fetch_Mails_r, .sl 1 x2_Fetch_Gone_r, .int .i64 x2_Look_State, .str x2_Look_User, .str x2_Look_Box, .int .i64 x2_Look_Valid, .sl 1 x2_Look_Uids_r]]⟩)] } : St) := by
        subst hR
        refine dwp_next (is := [0, 1, 2, 3, 4, 5, 6, 7, 8, 9, 10, 11, 12]) rfl ?_
        refine allRdy_none rfl ?_
        refine allRdy_none rfl ?_
        refine allRdy_none rfl ?_
        refine allRdy_none rfl ?_
        refine allRdy_none rfl ?_
        refine allRdy_none rfl ?_
        refine allRdy_none rfl ?_
        refine allRdy_none rfl ?_
        refine allRdy_none rfl ?_
        refine allRdy_none rfl ?_
        refine allRdy_some rfl ?_ ?_
        · skip
          refine ops_step rfl rfl (str_add rfl rfl rfl hs10 bs10) ?_
          exact ops_done (dwp_to [] (by cbv) rfl H_0_1_2_3_4_5_6_7_8_9_10)
        refine allRdy_none rfl ?_
        refine allRdy_none rfl ?_
        exact trivial
      have H_1_2_3_4_5_6_7_8_9_10 : dwp T ⟨Real Tryd.prog, RealM Tryd.prog, RealC Tryd.prog⟩ R K 3 [false, true, true, true, true, true, true, true, true, true, true, false, false] ({ sl := [.bad, .bad, .bad, .str S, .bad, .pt 5 0 0, .sl 17 xs_r, .int .i64 (A.rlen xs_r), .int .i64 n, .bool (A.cmp .lss n (A.rlen xs_r)), .rd [.int .i64 x2_Kind, .str x2_In, .str x2_Out, .bool x2_Over, .int .i64 x2_Bring_State, .str x2_Bring_From, .sl 1 x2_Bring_To_r, .sl 1 x2_Bring_Data_r, .int .i64 x2_Fetch_State, .str x2_Fetch_User, .sl 3 x2_Fetch_Mails_r, .sl 1 x2_Fetch_Gone_r, .int .i64 x2_Look_State, .str x2_Look_User, .str x2_Look_Box, .int .i64 x2_Look_Valid, .sl 1 x2_Look_Uids_r], .agg [.int .i64 x2_Kind, .str x2_In, .str x2_Out, .bool x2_Over, .int .i64 x2_Bring_State, .str x2_Bring_From, .sl 1 x2_Bring_To_r, .sl 1 x2_Bring_Data_r, .int .i64 x2_Fetch_State, .str x2_Fetch_User, .sl 3 x2_Fetch_Mails_r, .sl 1 x2_Fetch_Gone_r, .int .i64 x2_Look_State, .str x2_Look_User, .str x2_Look_Box, .int .i64 x2_Look_Valid, .sl 1 x2_Look_Uids_r], .bad, .pt 5 0 0, .int .i64 x2_Kind, .int .i64 m3, .str v16_4, .str s6, .str s7, .pt 5 0 2, .str x2_Out, .str v21_8, .str s10, .bad, .bad, .bad], bl := [(5, ⟨.var, 17, [[.int .i64 x2_Kind, .str x2_In, .str x2_Out, .bool x2_Over, .int .i64 x2_Bring_State, .str x2_Bring_From, .sl 1 x2_Bring_To_r, .sl 1 x2_Bring_Data_r, .int .i64 x2_Fetch_State, .str x2_Fetch_User, .sl 3 x2_Fetch_Mails_r, .sl 1 x2_Fetch_Gone_r, .int .i64 x2_Look_State, .str x2_Look_User, .str x2_Look_Box, .int .i64 x2_Look_Valid, .sl 1 x2_Look_Uids_r]]⟩)] } : St) := by
        subst hR
        refine dwp_next (is := [0, 1, 2, 3, 4, 5, 6, 7, 8, 9, 10, 11, 12]) rfl ?_
        refine allRdy_some rfl ?_ ?_
        · skip
          refine run_aops hA 1 _ _ _ _ (by cbv) ?_
          exact ops_done (dwp_to [] (by cbv) rfl H_0_1_2_3_4_5_6_7_8_9_10)
        refine allRdy_none rfl ?_
        refine allRdy_none rfl ?_
        refine allRdy_none rfl ?_
        refine allRdy_none rfl ?_
        refine allRdy_none rfl ?_
        refine allRdy_none rfl ?_
        refine allRdy_none rfl ?_
        refine allRdy_none rfl ?_
        refine allRdy_none rfl ?_
        refine allRdy_none rfl ?_
        refine allRdy_none rfl ?_
        refine allRdy_none rfl ?_
        exact trivial
      have H_0_1_2_3_4_5_6_7_8 : dwp T ⟨Real Tryd.prog, RealM Tryd.prog, RealC Tryd.prog⟩ R K 4 [true, true, true, true, true, true, true, true, true, false, false, false, false] ({ sl := [.bad, .bad, .bad, .str S, .bad, .pt 5 0 0, .sl 17 xs_r, .int .i64 (A.rlen xs_r), .int .i64 n, .bool (A.cmp .lss n (A.rlen xs_r)), .rd [.int .i64 x2_Kind, .str x2_In, .str x2_Out, .bool x2_Over, .int .i64 x2_Bring_State, .str x2_Bring_From, .sl 1 x2_Bring_To_r, .sl 1 x2_Bring_Data_r, .int .i64 x2_Fetch_State, .str x2_Fetch_User, .sl 3 x2_Fetch_Mails_r, .sl 1 x2_Fetch_Gone_r, .int .i64 x2_Look_State, .str x2_Look_User, .str x2_Look_Box, .int .i64 x2_Look_Valid, .sl 1 x2_Look_Uids_r], .agg [.int .i64 x2_Kind, .str x2_In, .str x2_Out, .bool x2_Over, .int .i64 x2_Bring_State, .str x2_Bring_From, .sl 1 x2_Bring_To_r, .sl 1 x2_Bring_Data_r, .int .i64 x2_Fetch_State, .str x2_Fetch_User, .sl 3 x2_Fetch_Mails_r, .sl 1 x2_Fetch_Gone_r, .int .i64 x2_Look_State, .str x2_Look_User, .str x2_Look_Box, .int .i64 x2_Look_Valid, .sl 1 x2_Look_Uids_r], .str S, .pt 5 0 0, .int .i64 x2_Kind, .int .i64 m3, .str v16_4, .str s6, .str s7, .pt 5 0 2, .str x2_Out, .bad, .bad, .bad, .bad, .bad], bl := [(5, ⟨.var, 17, [[.int .i64 x2_Kind, .str x2_In, .str x2_Out, .bool x2_Over, .int .i64 x2_Bring_State, .str x2_Bring_From, .sl 1 x2_Bring_To_r, .sl 1 x2_Bring_Data_r, .int .i64 x2_Fetch_State, .str x2_Fetch_User, .sl 3 x2_Fetch_Mails_r, .sl 1 x2_Fetch_Gone_r, .int .i64 x2_Look_State, .str x2_Look_User, .str x2_Look_Box, .int .i64 x2_Look_Valid, .sl 1 x2_Look_Uids_r]]⟩)] } : St) := by
        subst hR
        refine dwp_next (is := [0, 1, 2, 3, 4, 5, 6, 7, 8, 9, 10, 11, 12]) rfl ?_
        refine allRdy_none rfl ?_
        refine allRdy_none rfl ?_
        refine allRdy_none rfl ?_
        refine allRdy_none rfl ?_
        refine allRdy_none rfl ?_
        refine allRdy_none rfl ?_
        refine allRdy_none rfl ?_
        refine allRdy_none rfl ?_
        refine allRdy_none rfl ?_
        refine allRdy_some rfl ?_ ?_
        · skip
          refine ops_callV rfl rfl (by cbv) (by cbv) hc9 (.inr rfl) (by cbv) ?_
          exact ops_done (dwp_to [] (by cbv) rfl H_0_1_2_3_4_5_6_7_8_9)
        refine allRdy_none rfl ?_
        refine allRdy_none rfl ?_
        refine allRdy_none rfl ?_
        exact trivial
      have H_0_1_2_3_4_5_7_8_9 : dwp T ⟨Real Tryd.prog, RealM Tryd.prog, RealC Tryd.prog⟩ R K 4 [true, true, true, true, true, true, false, true, true, true, false, false, false] ({ sl := [.bad, .bad, .bad, .str S, .bad, .pt 5 0 0, .sl 17 xs_r, .int .i64 (A.rlen xs_r), .int .i64 n, .bool (A.cmp .lss n (A.rlen xs_r)), .rd [.int .i64 x2_Kind, .str x2_In, .str x2_Out, .bool x2_Over, .int .i64 x2_Bring_State, .str x2_Bring_From, .sl 1 x2_Bring_To_r, .sl 1 x2_Bring_Data_r, .int .i64 x2_Fetch_State, .str x2_Fetch_User, .sl 3 x2_Fetch_Mails_r, .sl 1 x2_Fetch_Gone_r, .int .i64 x2_Look_State, .str x2_Look_User, .str x2_Look_Box, .int .i64 x2_Look_Valid, .sl 1 x2_Look_Uids_r], .agg [.int .i64 x2_Kind, .str x2_In, .str x2_Out, .bool x2_Over, .int .i64 x2_Bring_State, .str x2_Bring_From, .sl 1 x2_Bring_To_r, .sl 1 x2_Bring_Data_r, .int .i64 x2_Fetch_State, .str x2_Fetch_User, .sl 3 x2_Fetch_Mails_r, .sl 1 x2_Fetch_Gone_r, .int .i64 x2_Look_State, .str x2_Look_User, .str x2_Look_Box, .int .i64 x2_Look_Valid, .sl 1 x2_Look_Uids_r], .str S, .pt 5 0 0, .int .i64 x2_Kind, .int .i64 m3, .str v16_4, .str s6, .bad, .pt 5 0 2, .str x2_Out, .str v21_8, .bad, .bad, .bad, .bad], bl := [(5, ⟨.var, 17, [[.int .i64 x2_Kind, .str x2_In, .str x2_Out, .bool x2_Over, .int .i64 x2_Bring_State, .str x2_Bring_From, .sl 1 x2_Bring_To_r, .sl 1 x2_Bring_Data_r, .int .i64 x2_Fetch_State, .str x2_Fetch_User, .sl 3 x2_Fetch_Mails_r, .sl 1 x2_Fetch_Gone_r, .int .i64 x2_Look_State, .str x2_Look_User, .str x2_Look_Box, .int .i64 x2_Look_Valid, .sl 1 x2_Look_Uids_r]]⟩)] } : St) := by
        subst hR
        refine dwp_next (is := [0, 1, 2, 3, 4, 5, 6, 7, 8, 9, 10, 11, 12]) rfl ?_
        refine allRdy_none rfl ?_
        refine allRdy_none rfl ?_
        refine allRdy_none rfl ?_
        refine allRdy_none rfl ?_
        refine allRdy_none rfl ?_
        refine allRdy_none rfl ?_
        refine allRdy_some rfl ?_ ?_
        · skip
          refine ops_step rfl rfl (str_add rfl rfl rfl hs7 bs7) ?_
          exact ops_done (dwp_to [] (by cbv) rfl H_0_1_2_3_4_5_6_7_8_9)
        refine allRdy_none rfl ?_
        refine allRdy_none rfl ?_
        refine allRdy_none rfl ?_
        refine allRdy_none rfl ?_
        refine allRdy_none rfl ?_
        refine allRdy_none rfl ?_
        exact trivial
      have H_1_2_3_4_5_6_7_8_9 : dwp T ⟨Real Tryd.prog, RealM Tryd.prog, RealC Tryd.prog⟩ R K 4 [false, true, true, true, true, true, true, true, true, true, false, false, false] ({ sl := [.bad, .bad, .bad, .str S, .bad, .pt 5 0 0, .sl 17 xs_r, .int .i64 (A.rlen xs_r), .int .i64 n, .bool (A.cmp .lss n (A.rlen xs_r)), .rd [.int .i64 x2_Kind, .str x2_In, .str x2_Out, .bool x2_Over, .int .i64 x2_Bring_State, .str x2_Bring_From, .sl 1 x2_Bring_To_r, .sl 1 x2_Bring_Data_r, .int .i64 x2_Fetch_State, .str x2_Fetch_User, .sl 3 x2_Fetch_Mails_r, .sl 1 x2_Fetch_Gone_r, .int .i64 x2_Look_State, .str x2_Look_User, .str x2_Look_Box, .int .i64 x2_Look_Valid, .sl 1 x2_Look_Uids_r], .agg [.int .i64 x2_Kind, .str x2_In, .str x2_Out, .bool x2_Over, .int .i64 x2_Bring_State, .str x2_Bring_From, .sl 1 x2_Bring_To_r, .sl 1 x2_Bring_Data_r, .int .i64 x2_Fetch_State, .str x2_Fetch_User, .sl 3 x2_Fetch_Mails_r, .sl 1 x2_Fetch_Gone_r, .int .i64 x2_Look_State, .str x2_Look_User, .str x2_Look_Box, .int .i64 x2_Look_Valid, .sl 1 x2_Look_Uids_r], .bad, .pt 5 0 0, .int .i64 x2_Kind, .int .i64 m3, .str v16_4, .str s6, .str s7, .pt 5 0 2, .str x2_Out, .str v21_8, .bad, .bad, .bad, .bad], bl := [(5, ⟨.var, 17, [[.int .i64 x2_Kind, .str x2_In, .str x2_Out, .bool x2_Over, .int .i64 x2_Bring_State, .str x2_Bring_From, .sl 1 x2_Bring_To_r, .sl 1 x2_Bring_Data_r, .int .i64 x2_Fetch_State, .str x2_Fetch_User, .sl 3 x2_Fetch_Mails_r, .sl 1 x2_Fetch_Gone_r, .int .i64 x2_Look_State, .str x2_Look_User, .str x2_Look_Box, .int .i64 x2_Look_Valid, .sl 1 x2_Look_Uids_r]]⟩)] } : St) := by
        subst hR
        refine dwp_next (is := [0, 1, 2, 3, 4, 5, 6, 7, 8, 9, 10, 11, 12]) rfl ?_
        refine allRdy_some rfl ?_ ?_
        · skip
          refine run_aops hA 1 _ _ _ _ (by cbv) ?_
          exact ops_done (dwp_to [] (by cbv) rfl H_0_1_2_3_4_5_6_7_8_9)
        refine allRdy_none rfl ?_
        refine allRdy_none rfl ?_
        refine allRdy_none rfl ?_
        refine allRdy_none rfl ?_
        refine allRdy_none rfl ?_
        refine allRdy_none rfl ?_
        refine allRdy_none rfl ?_
        refine allRdy_none rfl ?_
        refine allRdy_none rfl ?_
        refine allRdy_some rfl ?_ ?_
        · skip
          refine ops_step rfl rfl (str_add rfl rfl rfl hs10 bs10) ?_
          exact ops_done (dwp_to [] (by cbv) rfl H_1_2_3_4_5_6_7_8_9_10)
        refine allRdy_none rfl ?_
        refine allRdy_none rfl ?_
        exact trivial
      have H_0_1_2_3_4_5_6_7 : dwp T ⟨Real Tryd.prog, RealM Tryd.prog, RealC Tryd.prog⟩ R K 5 [true, true, true, true, true, true, true, true, false, false, false, false, false] ({ sl := [.bad, .bad, .bad, .str S, .bad, .pt 5 0 0, .sl 17 xs_r, .int .i64 (A.rlen xs_r), .int .i64 n, .bool (A.cmp .lss n (A.rlen xs_r)), .rd [.int .i64 x2_Kind, .str x2_In, .str x2_Out, .bool x2_Over, .int .i64 x2_Bring_State, .str x2_Bring_From, .sl 1 x2_Bring_To_r, .sl 1 x2_Bring_Data_r, .int .i64 x2_Fetch_State, .str x2_Fetch_User, .sl 3 x2_Fetch_Mails_r, .sl 1 x2_Fetch_Gone_r, .int .i64 x2_Look_State, .str x2_Look_User, .str x2_Look_Box, .int .i64 x2_Look_Valid, .sl 1 x2_Look_Uids_r], .agg [.int .i64 x2_Kind, .str x2_In, .str x2_Out, .bool x2_Over, .int .i64 x2_Bring_State, .str x2_Bring_From, .sl 1 x2_Bring_To_r, .sl 1 x2_Bring_Data_r, .int .i64 x2_Fetch_State, .str x2_Fetch_User, .sl 3 x2_Fetch_Mails_r, .sl 1 x2_Fetch_Gone_r, .int .i64 x2_Look_State, .str x2_Look_User, .str x2_Look_Box, .int .i64 x2_Look_Valid, .sl 1 x2_Look_Uids_r], .str S, .pt 5 0 0, .int .i64 x2_Kind, .int .i64 m3, .str v16_4, .str s6, .str s7, .pt 5 0 2, .bad, .bad, .bad, .bad, .bad, .bad], bl := [(5, ⟨.var, 17, [[.int .i64 x2_Kind, .str x2_In, .str x2_Out, .bool x2_Over, .int .i64 x2_Bring_State, .str x2_Bring_From, .sl 1 x2_Bring_To_r, .sl 1 x2_Bring_Data_r, .int .i64 x2_Fetch_State, .str x2_Fetch_User, .sl 3 x2_Fetch_Mails_r, .sl 1 x2_Fetch_Gone_r, .int .i64 x2_Look_State, .str x2_Look_User, .str x2_Look_Box, .int .i64 x2_Look_Valid, .sl 1 x2_Look_Uids_r]]⟩)] } : St) := by
        subst hR
        refine dwp_next (is := [0, 1, 2, 3, 4, 5, 6, 7, 8, 9, 10, 11, 12]) rfl ?_
        refine allRdy_none rfl ?_
        refine allRdy_none rfl ?_
        refine allRdy_none rfl ?_
        refine allRdy_none rfl ?_
        refine allRdy_none rfl ?_
        refine allRdy_none rfl ?_
        refine allRdy_none rfl ?_
        refine allRdy_none rfl ?_
        refine allRdy_some rfl ?_ ?_
        · skip
          refine run_aops hA 1 _ _ _ _ (by cbv) ?_
          exact ops_done (dwp_to [] (by cbv) rfl H_0_1_2_3_4_5_6_7_8)
        refine allRdy_none rfl ?_
        refine allRdy_none rfl ?_
        refine allRdy_none rfl ?_
        refine allRdy_none rfl ?_
        exact trivial
      have H_0_1_2_3_4_5_7_8 : dwp T ⟨Real Tryd.prog, RealM Tryd.prog, RealC Tryd.prog⟩ R K 5 [true, true, true, true, true, true, false, true, true, false, false, false, false] ({ sl := [.bad, .bad, .bad, .str S, .bad, .pt 5 0 0, .sl 17 xs_r, .int .i64 (A.rlen xs_r), .int .i64 n, .bool (A.cmp .lss n (A.rlen xs_r)), .rd [.int .i64 x2_Kind, .str x2_In, .str x2_Out, .bool x2_Over, .int .i64 x2_Bring_State, .str x2_Bring_From, .sl 1 x2_Bring_To_r, .sl 1 x2_Bring_Data_r, .int .i64 x2_Fetch_State, .str x2_Fetch_User, .sl 3 x2_Fetch_Mails_r, .sl 1 x2_Fetch_Gone_r, .int .i64 x2_Look_State, .str x2_Look_User, .str x2_Look_Box, .int .i64 x2_Look_Valid, .sl 1 x2_Look_Uids_r], .agg [.int .i64 x2_Kind, .str x2_In, .str x2_Out, .bool x2_Over, .int .i64 x2_Bring_State, .str x2_Bring_From, .sl 1 x2_Bring_To_r, .sl 1 x2_Bring_Data_r, .int .i64 x2_Fetch_State, .str x2_Fetch_User, .sl 3 x2_Fetch_Mails_r, .sl 1 x2_Fetch_Gone_r, .int .i64 x2_Look_State, .str x2_Look_User, .str x2_Look_Box, .int .i64 x2_Look_Valid, .sl 1 x2_Look_Uids_r], .str S, .pt 5 0 0, .int .i64 x2_Kind, .int .i64 m3, .str v16_4, .str s6, .bad, .pt 5 0 2, .str x2_Out, .bad, .bad, .bad, .bad, .bad], bl := [(5, ⟨.var, 17, [[.int .i64 x2_Kind, .str x2_In, .str x2_Out, .bool x2_Over, .int .i64 x2_Bring_State, .str x2_Bring_From, .sl 1 x2_Bring_To_r, .sl 1 x2_Bring_Data_r, .int .i64 x2_Fetch_State, .str x2_Fetch_User, .sl 3 x2_Fetch_Mails_r, .sl 1 x2_Fetch_Gone_r, .int .i64 x2_Look_State, .str x2_Look_User, .str x2_Look_Box, .int .i64 x2_Look_Valid, .sl 1 x2_Look_Uids_r]]⟩)] } : St) := by
        subst hR
        refine dwp_next (is := [0, 1, 2, 3, 4, 5, 6, 7, 8, 9, 10, 11, 12]) rfl ?_
        refine allRdy_none rfl ?_
        refine allRdy_none rfl ?_
        refine allRdy_none rfl ?_
        refine allRdy_none rfl ?_
        refine allRdy_none rfl ?_
        refine allRdy_none rfl ?_
        refine allRdy_some rfl ?_ ?_
        · skip
          refine ops_step rfl rfl (str_add rfl rfl rfl hs7 bs7) ?_
          exact ops_done (dwp_to [] (by cbv) rfl H_0_1_2_3_4_5_6_7_8)
        refine allRdy_none rfl ?_
        refine allRdy_none rfl ?_
        refine allRdy_some rfl ?_ ?_
        · skip
          refine ops_callV rfl rfl (by cbv) (by cbv) hc9 (.inr rfl) (by cbv) ?_
          exact ops_done (dwp_to [] (by cbv) rfl H_0_1_2_3_4_5_7_8_9)
        refine allRdy_none rfl ?_
        refine allRdy_none rfl ?_
        refine allRdy_none rfl ?_
        exact trivial
      have H_0_1_2_3_4_7_8_9 : dwp T ⟨Real Tryd.prog, RealM Tryd.prog, RealC Tryd.prog⟩ R K 5 [true, true, true, true, true, false, false, true, true, true, false, false, false] ({ sl := [.bad, .bad, .bad, .str S, .bad, .pt 5 0 0, .sl 17 xs_r, .int .i64 (A.rlen xs_r), .int .i64 n, .bool (A.cmp .lss n (A.rlen xs_r)), .rd [.int .i64 x2_Kind, .str x2_In, .str x2_Out, .bool x2_Over, .int .i64 x2_Bring_State, .str x2_Bring_From, .sl 1 x2_Bring_To_r, .sl 1 x2_Bring_Data_r, .int .i64 x2_Fetch_State, .str x2_Fetch_User, .sl 3 x2_Fetch_Mails_r, .sl 1 x2_Fetch_Gone_r, .int .i64 x2_Look_State, .str x2_Look_User, .str x2_Look_Box, .int .i64 x2_Look_Valid, .sl 1 x2_Look_Uids_r], .agg [.int .i64 x2_Kind, .str x2_In, .str x2_Out, .bool x2_Over, .int .i64 x2_Bring_State, .str x2_Bring_From, .sl 1 x2_Bring_To_r, .sl 1 x2_Bring_Data_r, .int .i64 x2_Fetch_State, .str x2_Fetch_User, .sl 3 x2_Fetch_Mails_r, .sl 1 x2_Fetch_Gone_r, .int .i64 x2_Look_State, .str x2_Look_User, .str x2_Look_Box, .int .i64 x2_Look_Valid, .sl 1 x2_Look_Uids_r], .str S, .pt 5 0 0, .int .i64 x2_Kind, .int .i64 m3, .str v16_4, .bad, .bad, .pt 5 0 2, .str x2_Out, .str v21_8, .bad, .bad, .bad, .bad], bl := [(5, ⟨.var, 17, [[.int .i64 x2_Kind, .str x2_In, .str x2_Out, .bool x2_Over, .int .i64 x2_Bring_State, .str x2_Bring_From, .sl 1 x2_Bring_To_r, .sl 1 x2_Bring_Data_r, .int .i64 x2_Fetch_State, .str x2_Fetch_User, .sl 3 x2_Fetch_Mails_r, .sl 1 x2_Fetch_Gone_r, .int .i64 x2_Look_State, .str x2_Look_User, .str x2_Look_Box, .int .i64 x2_Look_Valid, .sl 1 x2_Look_Uids_r]]⟩)] } : St) := by
        subst hR
        refine dwp_next (is := [0, 1, 2, 3, 4, 5, 6, 7, 8, 9, 10, 11, 12]) rfl ?_
        refine allRdy_none rfl ?_
        refine allRdy_none rfl ?_
        refine allRdy_none rfl ?_
        refine allRdy_none rfl ?_
        refine allRdy_none rfl ?_
        refine allRdy_some rfl ?_ ?_
        · skip
          refine ops_step rfl rfl (str_add rfl rfl rfl hs6 bs6) ?_
          exact ops_done (dwp_to [] (by cbv) rfl H_0_1_2_3_4_5_7_8_9)
        refine allRdy_none rfl ?_
        refine allRdy_none rfl ?_
        refine allRdy_none rfl ?_
        refine allRdy_none rfl ?_
        refine allRdy_none rfl ?_
        refine allRdy_none rfl ?_
        refine allRdy_none rfl ?_
        exact trivial
      have H_1_2_3_4_5_6_7_8 : dwp T ⟨Real Tryd.prog, RealM Tryd.prog, RealC Tryd.prog⟩ R K 5 [false, true, true, true, true, true, true, true, true, false, false, false, false] ({ sl := [.bad, .bad, .bad, .str S, .bad, .pt 5 0 0, .sl 17 xs_r, .int .i64 (A.rlen xs_r), .int .i64 n, .bool (A.cmp .lss n (A.rlen xs_r)), .rd [.int .i64 x2_Kind, .str x2_In, .str x2_Out, .bool x2_Over, .int .i64 x2_Bring_State, .str x2_Bring_From, .sl 1 x2_Bring_To_r, .sl 1 x2_Bring_Data_r, .int .i64 x2_Fetch_State, .str x2_Fetch_User, .sl 3 x2_Fetch_Mails_r, .sl 1 x2_Fetch_Gone_r, .int .i64 x2_Look_State, .str x2_Look_User, .str x2_Look_Box, .int .i64 x2_Look_Valid, .sl 1 x2_Look_Uids_r], .agg [.int .i64 x2_Kind, .str x2_In, .str x2_Out, .bool x2_Over, .int .i64 x2_Bring_State, .str x2_Bring_From, .sl 1 x2_Bring_To_r, .sl 1 x2_Bring_Data_r, .int .i64 x2_Fetch_State, .str x2_Fetch_User, .sl 3 x2_Fetch_Mails_r, .sl 1 x2_Fetch_Gone_r, .int .i64 x2_Look_State, .str x2_Look_User, .str x2_Look_Box, .int .i64 x2_Look_Valid, .sl 1 x2_Look_Uids_r], .bad, .pt 5 0 0, .int .i64 x2_Kind, .int .i64 m3, .str v16_4, .str s6, .str s7, .pt 5 0 2, .str x2_Out, .bad, .bad, .bad, .bad, .bad], bl := [(5, ⟨.var, 17, [[.int .i64 x2_Kind, .str x2_In, .str x2_Out, .bool x2_Over, .int .i64 x2_Bring_State, .str x2_Bring_From, .sl 1 x2_Bring_To_r, .sl 1 x2_Bring_Data_r, .int .i64 x2_Fetch_State, .str x2_Fetch_User, .sl 3 x2_Fetch_Mails_r, .sl 1 x2_Fetch_Gone_r, .int .i64 x2_Look_State, .str x2_Look_User, .str x2_Look_Box, .int .i64 x2_Look_Valid, .sl 1 x2_Look_Uids_r]]⟩)] } : St) := by
        subst hR
        refine dwp_next (is := [0, 1, 2, 3, 4, 5, 6, 7, 8, 9, 10, 11, 12]) rfl ?_
        refine allRdy_some rfl ?_ ?_
        · skip
          refine run_aops hA 1 _ _ _ _ (by cbv) ?_
          exact ops_done (dwp_to [] (by cbv) rfl H_0_1_2_3_4_5_6_7_8)
        refine allRdy_none rfl ?_
        refine allRdy_none rfl ?_
        refine allRdy_none rfl ?_
        refine allRdy_none rfl ?_
        refine allRdy_none rfl ?_
        refine allRdy_none rfl ?_
        refine allRdy_none rfl ?_
        refine allRdy_none rfl ?_
        refine allRdy_some rfl ?_ ?_
        · skip
          refine ops_callV rfl rfl (by cbv) (by cbv) hc9 (.inr rfl) (by cbv) ?_
          exact ops_done (dwp_to [] (by cbv) rfl H_1_2_3_4_5_6_7_8_9)
        refine allRdy_none rfl ?_
        refine allRdy_none rfl ?_
        refine allRdy_none rfl ?_
        exact trivial
      have H_1_2_3_4_5_7_8_9 : dwp T ⟨Real Tryd.prog, RealM Tryd.prog, RealC Tryd.prog⟩ R K 5 [false, true, true, true, true, true, false, true, true, true, false, false, false] ({ sl := [.bad, .bad, .bad, .str S, .bad, .pt 5 0 0, .sl 17 xs_r, .int .i64 (A.rlen xs_r), .int .i64 n, .bool (A.cmp .lss n (A.rlen xs_r)), .rd [.int .i64 x2_Kind, .str x2_In, .str x2_Out, .bool x2_Over, .int .i64 x2_Bring_State, .str x2_Bring_From, .sl 1 x2_Bring_To_r, .sl 1 x2_Bring_Data_r, .int .i64 x2_Fetch_State, .str x2_Fetch_User, .sl 3 x2_Fetch_Mails_r, .sl 1 x2_Fetch_Gone_r, .int .i64 x2_Look_State, .str x2_Look_User, .str x2_Look_Box, .int .i64 x2_Look_Valid, .sl 1 x2_Look_Uids_r], .agg [.int .i64 x2_Kind, .str x2_In, .str x2_Out, .bool x2_Over, .int .i64 x2_Bring_State, .str x2_Bring_From, .sl 1 x2_Bring_To_r, .sl 1 x2_Bring_Data_r, .int .i64 x2_Fetch_State, .str x2_Fetch_User, .sl 3 x2_Fetch_Mails_r, .sl 1 x2_Fetch_Gone_r, .int .i64 x2_Look_State, .str x2_Look_User, .str x2_Look_Box, .int .i64 x2_Look_Valid, .sl 1 x2_Look_Uids_r], .bad, .pt 5 0 0, .int .i64 x2_Kind, .int .i64 m3, .str v16_4, .str s6, .bad, .pt 5 0 2, .str x2_Out, .str v21_8, .bad, .bad, .bad, .bad], bl := [(5, ⟨.var, 17, [[.int .i64 x2_Kind, .str x2_In, .str x2_Out, .bool x2_Over, .int .i64 x2_Bring_State, .str x2_Bring_From, .sl 1 x2_Bring_To_r, .sl 1 x2_Bring_Data_r, .int .i64 x2_Fetch_State, .str x2_Fetch_User, .sl 3 x2_Fetch_Mails_r, .sl 1 x2_Fetch_Gone_r, .int .i64 x2_Look_State, .str x2_Look_User, .str x2_Look_Box, .int .i64 x2_Look_Valid, .sl 1 x2_Look_Uids_r]]⟩)] } : St) := by
        subst hR
        refine dwp_next (is := [0, 1, 2, 3, 4, 5, 6, 7, 8, 9, 10, 11, 12]) rfl ?_
        refine allRdy_some rfl ?_ ?_
        · skip
          refine run_aops hA 1 _ _ _ _ (by cbv) ?_
          exact ops_done (dwp_to [] (by cbv) rfl H_0_1_2_3_4_5_7_8_9)
        refine allRdy_none rfl ?_
        refine allRdy_none rfl ?_
        refine allRdy_none rfl ?_
        refine allRdy_none rfl ?_
        refine allRdy_none rfl ?_
        refine allRdy_some rfl ?_ ?_
        · skip
          refine ops_step rfl rfl (str_add rfl rfl rfl hs7 bs7) ?_
          exact ops_done (dwp_to [] (by cbv) rfl H_1_2_3_4_5_6_7_8_9)
        refine allRdy_none rfl ?_
        refine allRdy_none rfl ?_
        refine allRdy_none rfl ?_
        refine allRdy_none rfl ?_
        refine allRdy_none rfl ?_
        refine allRdy_none rfl ?_
        exact trivial
      have H_0_1_2_3_4_5_6 : dwp T ⟨Real Tryd.prog, RealM Tryd.prog, RealC Tryd.prog⟩ R K 6 [true, true, true, true, true, true, true, false, false, false, false, false, false] ({ sl := [.bad, .bad, .bad, .str S, .bad, .pt 5 0 0, .sl 17 xs_r, .int .i64 (A.rlen xs_r), .int .i64 n, .bool (A.cmp .lss n (A.rlen xs_r)), .rd [.int .i64 x2_Kind, .str x2_In, .str x2_Out, .bool x2_Over, .int .i64 x2_Bring_State, .str x2_Bring_From, .sl 1 x2_Bring_To_r, .sl 1 x2_Bring_Data_r, .int .i64 x2_Fetch_State, .str x2_Fetch_User, .sl 3 x2_Fetch_Mails_r, .sl 1 x2_Fetch_Gone_r, .int .i64 x2_Look_State, .str x2_Look_User, .str x2_Look_Box, .int .i64 x2_Look_Valid, .sl 1 x2_Look_Uids_r], .agg [.int .i64 x2_Kind, .str x2_In, .str x2_Out, .bool x2_Over, .int .i64 x2_Bring_State, .str x2_Bring_From, .sl 1 x2_Bring_To_r, .sl 1 x2_Bring_Data_r, .int .i64 x2_Fetch_State, .str x2_Fetch_User, .sl 3 x2_Fetch_Mails_r, .sl 1 x2_Fetch_Gone_r, .int .i64 x2_Look_State, .str x2_Look_User, .str x2_Look_Box, .int .i64 x2_Look_Valid, .sl 1 x2_Look_Uids_r], .str S, .pt 5 0 0, .int .i64 x2_Kind, .int .i64 m3, .str v16_4, .str s6, .str s7, .bad, .bad, .bad, .bad, .bad, .bad, .bad], bl := [(5, ⟨.var, 17, [[.int .i64 x2_Kind, .str x2_In, .str x2_Out, .bool x2_Over, .int .i64 x2_Bring_State, .str x2_Bring_From, .sl 1 x2_Bring_To_r, .sl 1 x2_Bring_Data_r, .int .i64 x2_Fetch_State, .str x2_Fetch_User, .sl 3 x2_Fetch_Mails_r, .sl 1 x2_Fetch_Gone_r, .int .i64 x2_Look_State, .str x2_Look_User, .str x2_Look_Box, .int .i64 x2_Look_Valid, .sl 1 x2_Look_Uids_r]]⟩)] } : St) := by
        subst hR
        refine dwp_next (is := [0, 1, 2, 3, 4, 5, 6, 7, 8, 9, 10, 11, 12]) rfl ?_
        refine allRdy_none rfl ?_
        refine allRdy_none rfl ?_
        refine allRdy_none rfl ?_
        refine allRdy_none rfl ?_
        refine allRdy_none rfl ?_
        refine allRdy_none rfl ?_
        refine allRdy_none rfl ?_
        refine allRdy_some rfl ?_ ?_
        · skip
          refine run_aops hA 1 _ _ _ _ (by cbv) ?_
          exact ops_done (dwp_to [] (by cbv) rfl H_0_1_2_3_4_5_6_7)
        refine allRdy_none rfl ?_
        refine allRdy_none rfl ?_
        refine allRdy_none rfl ?_
        refine allRdy_none rfl ?_
        refine allRdy_none rfl ?_
        exact trivial
      have H_0_1_2_3_4_5_7 : dwp T ⟨Real Tryd.prog, RealM Tryd.prog, RealC Tryd.prog⟩ R K 6 [true, true, true, true, true, true, false, true, false, false, false, false, false] ({ sl := [.bad, .bad, .bad, .str S, .bad, .pt 5 0 0, .sl 17 xs_r, .int .i64 (A.rlen xs_r), .int .i64 n, .bool (A.cmp .lss n (A.rlen xs_r)), .rd [.int .i64 x2_Kind, .str x2_In, .str x2_Out, .bool x2_Over, .int .i64 x2_Bring_State, .str x2_Bring_From, .sl 1 x2_Bring_To_r, .sl 1 x2_Bring_Data_r, .int .i64 x2_Fetch_State, .str x2_Fetch_User, .sl 3 x2_Fetch_Mails_r, .sl 1 x2_Fetch_Gone_r, .int .i64 x2_Look_State, .str x2_Look_User, .str x2_Look_Box, .int .i64 x2_Look_Valid, .sl 1 x2_Look_Uids_r], .agg [.int .i64 x2_Kind, .str x2_In, .str x2_Out, .bool x2_Over, .int .i64 x2_Bring_State, .str x2_Bring_From, .sl 1 x2_Bring_To_r, .sl 1 x2_Bring_Data_r, .int .i64 x2_Fetch_State, .str x2_Fetch_User, .sl 3 x2_Fetch_Mails_r, .sl 1 x2_Fetch_Gone_r, .int .i64 x2_Look_State, .str x2_Look_User, .str x2_Look_Box, .int .i64 x2_Look_Valid, .sl 1 x2_Look_Uids_r], .str S, .pt 5 0 0, .int .i64 x2_Kind, .int .i64 m3, .str v16_4, .str s6, .bad, .pt 5 0 2, .bad, .bad, .bad, .bad, .bad, .bad], bl := [(5, ⟨.var, 17, [[.int .i64 x2_Kind, .str x2_In, .str x2_Out, .bool x2_Over, .int .i64 x2_Bring_State, .str x2_Bring_From, .sl 1 x2_Bring_To_r, .sl 1 x2_Bring_Data_r, .int .i64 x2_Fetch_State, .str x2_Fetch_User, .sl 3 x2_Fetch_Mails_r, .sl 1 x2_Fetch_Gone_r, .int .i64 x2_Look_State, .str x2_Look_User, .str x2_Look_Box, .int .i64 x2_Look_Valid, .sl 1 x2_Look_Uids_r]]⟩)] } : St) := by
        subst hR
        refine dwp_next (is := [0, 1, 2, 3, 4, 5, 6, 7, 8, 9, 10, 11, 12]) rfl ?_
        refine allRdy_none rfl ?_
        refine allRdy_none rfl ?_
        refine allRdy_none rfl ?_
        refine allRdy_none rfl ?_
        refine allRdy_none rfl ?_
        refine allRdy_none rfl ?_
        refine allRdy_some rfl ?_ ?_
        · skip
          refine ops_step rfl rfl (str_add rfl rfl rfl hs7 bs7) ?_
          exact ops_done (dwp_to [] (by cbv) rfl H_0_1_2_3_4_5_6_7)
        refine allRdy_none rfl ?_
        refine allRdy_some rfl ?_ ?_
        · skip
          refine run_aops hA 1 _ _ _ _ (by cbv) ?_
          exact ops_done (dwp_to [] (by cbv) rfl H_0_1_2_3_4_5_7_8)
        refine allRdy_none rfl ?_
        refine allRdy_none rfl ?_
        refine allRdy_none rfl ?_
        refine allRdy_none rfl ?_
        exact trivial
      have H_0_1_2_3_4_7_8 : dwp T ⟨Real Tryd.prog, RealM Tryd.prog, RealC Tryd.prog⟩ R K 6 [true, true, true, true, true, false, false, true, true, false, false, false, false] ({ sl := [.bad, .bad, .bad, .str S, .bad, .pt 5 0 0, .sl 17 xs_r, .int .i64 (A.rlen xs_r), .int .i64 n, .bool (A.cmp .lss n (A.rlen xs_r)), .rd [.int .i64 x2_Kind, .str x2_In, .str x2_Out, .bool x2_Over, .int .i64 x2_Bring_State, .str x2_Bring_From, .sl 1 x2_Bring_To_r, .sl 1 x2_Bring_Data_r, .int .i64 x2_Fetch_State, .str x2_Fetch_User, .sl 3 x2_Fetch_Mails_r, .sl 1 x2_Fetch_Gone_r, .int .i64 x2_Look_State, .str x2_Look_User, .str x2_Look_Box, .int .i64 x2_Look_Valid, .sl 1 x2_Look_Uids_r], .agg [.int .i64 x2_Kind, .str x2_In, .str x2_Out, .bool x2_Over, .int .i64 x2_Bring_State, .str x2_Bring_From, .sl 1 x2_Bring_To_r, .sl 1 x2_Bring_Data_r, .int .i64 x2_Fetch_State, .str x2_Fetch_User, .sl 3 x2_Fetch_Mails_r, .sl 1 x2_Fetch_Gone_r, .int .i64 x2_Look_State, .str x2_Look_User, .str x2_Look_Box, .int .i64 x2_Look_Valid, .sl 1 x2_Look_Uids_r], .str S, .pt 5 0 0, .int .i64 x2_Kind, .int .i64 m3, .str v16_4, .bad, .bad, .pt 5 0 2, .str x2_Out, .bad, .bad, .bad, .bad, .bad], bl := [(5, ⟨.var, 17, [[.int .i64 x2_Kind, .str x2_In, .str x2_Out, .bool x2_Over, .int .i64 x2_Bring_State, .str x2_Bring_From, .sl 1 x2_Bring_To_r, .sl 1 x2_Bring_Data_r, .int .i64 x2_Fetch_State, .str x2_Fetch_User, .sl 3 x2_Fetch_Mails_r, .sl 1 x2_Fetch_Gone_r, .int .i64 x2_Look_State, .str x2_Look_User, .str x2_Look_Box, .int .i64 x2_Look_Valid, .sl 1 x2_Look_Uids_r]]⟩)] } : St) := by
        subst hR
        refine dwp_next (is := [0, 1, 2, 3, 4, 5, 6, 7, 8, 9, 10, 11, 12]) rfl ?_
        refine allRdy_none rfl ?_
        refine allRdy_none rfl ?_
        refine allRdy_none rfl ?_
        refine allRdy_none rfl ?_
        refine allRdy_none rfl ?_
        refine allRdy_some rfl ?_ ?_
        · skip
          refine ops_step rfl rfl (str_add rfl rfl rfl hs6 bs6) ?_
          exact ops_done (dwp_to [] (by cbv) rfl H_0_1_2_3_4_5_7_8)
        refine allRdy_none rfl ?_
        refine allRdy_none rfl ?_
        refine allRdy_none rfl ?_
        refine allRdy_some rfl ?_ ?_
        · skip
          refine ops_callV rfl rfl (by cbv) (by cbv) hc9 (.inr rfl) (by cbv) ?_
          exact ops_done (dwp_to [] (by cbv) rfl H_0_1_2_3_4_7_8_9)
        refine allRdy_none rfl ?_
        refine allRdy_none rfl ?_
        refine allRdy_none rfl ?_
        exact trivial
      have H_1_2_3_4_5_6_7 : dwp T ⟨Real Tryd.prog, RealM Tryd.prog, RealC Tryd.prog⟩ R K 6 [false, true, true, true, true, true, true, true, false, false, false, false, false] ({ sl := [.bad, .bad, .bad, .str S, .bad, .pt 5 0 0, .sl 17 xs_r, .int .i64 (A.rlen xs_r), .int .i64 n, .bool (A.cmp .lss n (A.rlen xs_r)), .rd [.int .i64 x2_Kind, .str x2_In, .str x2_Out, .bool x2_Over, .int .i64 x2_Bring_State, .str x2_Bring_From, .sl 1 x2_Bring_To_r, .sl 1 x2_Bring_Data_r, .int .i64 x2_Fetch_State, .str x2_Fetch_User, .sl 3 x2_Fetch_Mails_r, .sl 1 x2_Fetch_Gone_r, .int .i64 x2_Look_State, .str x2_Look_User, .str x2_Look_Box, .int .i64 x2_Look_Valid, .sl 1 x2_Look_Uids_r], .agg [.int .i64 x2_Kind, .str x2_In, .str x2_Out, .bool x2_Over, .int .i64 x2_Bring_State, .str x2_Bring_From, .sl 1 x2_Bring_To_r, .sl 1 x2_Bring_Data_r, .int .i64 x2_Fetch_State, .str x2_Fetch_User, .sl 3 x2_Fetch_Mails_r, .sl 1 x2_Fetch_Gone_r, .int .i64 x2_Look_State, .str x2_Look_User, .str x2_Look_Box, .int .i64 x2_Look_Valid, .sl 1 x2_Look_Uids_r], .bad, .pt 5 0 0, .int .i64 x2_Kind, .int .i64 m3, .str v16_4, .str s6, .str s7, .pt 5 0 2, .bad, .bad, .bad, .bad, .bad, .bad], bl := [(5, ⟨.var, 17, [[.int .i64 x2_Kind, .str x2_In, .str x2_Out, .bool x2_Over, .int .i64 x2_Bring_State, .str x2_Bring_From, .sl 1 x2_Bring_To_r, .sl 1 x2_Bring_Data_r, .int .i64 x2_Fetch_State, .str x2_Fetch_User, .sl 3 x2_Fetch_Mails_r, .sl 1 x2_Fetch_Gone_r, .int .i64 x2_Look_State, .str x2_Look_User, .str x2_Look_Box, .int .i64 x2_Look_Valid, .sl 1 x2_Look_Uids_r]]⟩)] } : St) := by
        subst hR
        refine dwp_next (is := [0, 1, 2, 3, 4, 5, 6, 7, 8, 9, 10, 11, 12]) rfl ?_
        refine allRdy_some rfl ?_ ?_
        · skip
          refine run_aops hA 1 _ _ _ _ (by cbv) ?_
          exact ops_done (dwp_to [] (by cbv) rfl H_0_1_2_3_4_5_6_7)
        refine allRdy_none rfl ?_
        refine allRdy_none rfl ?_
        refine allRdy_none rfl ?_
        refine allRdy_none rfl ?_
        refine allRdy_none rfl ?_
        refine allRdy_none rfl ?_
        refine allRdy_none rfl ?_
        refine allRdy_some rfl ?_ ?_
        · skip
          refine run_aops hA 1 _ _ _ _ (by cbv) ?_
          exact ops_done (dwp_to [] (by cbv) rfl H_1_2_3_4_5_6_7_8)
        refine allRdy_none rfl ?_
        refine allRdy_none rfl ?_
        refine allRdy_none rfl ?_
        refine allRdy_none rfl ?_
        exact trivial
      have H_1_2_3_4_5_7_8 : dwp T ⟨Real Tryd.prog, RealM Tryd.prog, RealC Tryd.prog⟩ R K 6 [false, true, true, true, true, true, false, true, true, false, false, false, false] ({ sl := [.bad, .bad, .bad, .str S, .bad, .pt 5 0 0, .sl 17 xs_r, .int .i64 (A.rlen xs_r), .int .i64 n, .bool (A.cmp .lss n (A.rlen xs_r)), .rd [.int .i64 x2_Kind, .str x2_In, .str x2_Out, .bool x2_Over, .int .i64 x2_Bring_State, .str x2_Bring_From, .sl 1 x2_Bring_To_r, .sl 1 x2_Bring_Data_r, .int .i64 x2_Fetch_State, .str x2_Fetch_User, .sl 3 x2_Fetch_Mails_r, .sl 1 x2_Fetch_Gone_r, .int .i64 x2_Look_State, .str x2_Look_User, .str x2_Look_Box, .int .i64 x2_Look_Valid, .sl 1 x2_Look_Uids_r], .agg [.int .i64 x2_Kind, .str x2_In, .str x2_Out, .bool x2_Over, .int .i64 x2_Bring_State, .str x2_Bring_From, .sl 1 x2_Bring_To_r, .sl 1 x2_Bring_Data_r, .int .i64 x2_Fetch_State, .str x2_Fetch_User, .sl 3 x2_Fetch_Mails_r, .sl 1 x2_Fetch_Gone_r, .int .i64 x2_Look_State, .str x2_Look_User, .str x2_Look_Box, .int .i64 x2_Look_Valid, .sl 1 x2_Look_Uids_r], .bad, .pt 5 0 0, .int .i64 x2_Kind, .int .i64 m3, .str v16_4, .str s6, .bad, .pt 5 0 2, .str x2_Out, .bad, .bad, .bad, .bad, .bad], bl := [(5, ⟨.var, 17, [[.int .i64 x2_Kind, .str x2_In, .str x2_Out, .bool x2_Over, .int .i64 x2_Bring_State, .str x2_Bring_From, .sl 1 x2_Bring_To_r, .sl 1 x2_Bring_Data_r, .int .i64 x2_Fetch_State, .str x2_Fetch_User, .sl 3 x2_Fetch_Mails_r, .sl 1 x2_Fetch_Gone_r, .int .i64 x2_Look_State, .str x2_Look_User, .str x2_Look_Box, .int .i64 x2_Look_Valid, .sl 1 x2_Look_Uids_r]]⟩)] } : St) := by
        subst hR
        refine dwp_next (is := [0, 1, 2, 3, 4, 5, 6, 7, 8, 9, 10, 11, 12]) rfl ?_
        refine allRdy_some rfl ?_ ?_
        · skip
          refine run_aops hA 1 _ _ _ _ (by cbv) ?_
          exact ops_done (dwp_to [] (by cbv) rfl H_0_1_2_3_4_5_7_8)
        refine allRdy_none rfl ?_
        refine allRdy_none rfl ?_
        refine allRdy_none rfl ?_
        refine allRdy_none rfl ?_
        refine allRdy_none rfl ?_
        refine allRdy_some rfl ?_ ?_
        · skip
          refine ops_step rfl rfl (str_add rfl rfl rfl hs7 bs7) ?_
          exact ops_done (dwp_to [] (by cbv) rfl H_1_2_3_4_5_6_7_8)
        refine allRdy_none rfl ?_
        refine allRdy_none rfl ?_
        refine allRdy_some rfl ?_ ?_
        · skip
          refine ops_callV rfl rfl (by cbv) (by cbv) hc9 (.inr rfl) (by cbv) ?_
          exact ops_done (dwp_to [] (by cbv) rfl H_1_2_3_4_5_7_8_9)
        refine allRdy_none rfl ?_
        refine allRdy_none rfl ?_
        refine allRdy_none rfl ?_
        exact trivial
      have H_1_2_3_4_7_8_9 : dwp T ⟨Real Tryd.prog, RealM Tryd.prog, RealC Tryd.prog⟩ R K 6 [false, true, true, true, true, false, false, true, true, true, false, false, false] ({ sl := [.bad, .bad, .bad, .str S, .bad, .pt 5 0 0, .sl 17 xs_r, .int .i64 (A.rlen xs_r), .int .i64 n, .bool (A.cmp .lss n (A.rlen xs_r)), .rd [.int .i64 x2_Kind, .str x2_In, .str x2_Out, .bool x2_Over, .int .i64 x2_Bring_State, .str x2_Bring_From, .sl 1 x2_Bring_To_r, .sl 1 x2_Bring_Data_r, .int .i64 x2_Fetch_State, .str x2_Fetch_User, .sl 3 x2_Fetch_Mails_r, .sl 1 x2_Fetch_Gone_r, .int .i64 x2_Look_State, .str x2_Look_User, .str x2_Look_Box, .int .i64 x2_Look_Valid, .sl 1 x2_Look_Uids_r], .agg [.int .i64 x2_Kind, .str x2_In, .str x2_Out, .bool x2_Over, .int .i64 x2_Bring_State, .str x2_Bring_From, .sl 1 x2_Bring_To_r, .sl 1 x2_Bring_Data_r, .int .i64 x2_Fetch_State, .str x2_Fetch_User, .sl 3 x2_Fetch_Mails_r, .sl 1 x2_Fetch_Gone_r, .int .i64 x2_Look_State, .str x2_Look_User, .str x2_Look_Box, .int .i64 x2_Look_Valid, .sl 1 x2_Look_Uids_r], .bad, .pt 5 0 0, .int .i64 x2_Kind, .int .i64 m3, .str v16_4, .bad, .bad, .pt 5 0 2, .str x2_Out, .str v21_8, .bad, .bad, .bad, .bad], bl := [(5, ⟨.var, 17, [[.int .i64 x2_Kind, .str x2_In, .str x2_Out, .bool x2_Over, .int .i64 x2_Bring_State, .str x2_Bring_From, .sl 1 x2_Bring_To_r, .sl 1 x2_Bring_Data_r, .int .i64 x2_Fetch_State, .str x2_Fetch_User, .sl 3 x2_Fetch_Mails_r, .sl 1 x2_Fetch_Gone_r, .int .i64 x2_Look_State, .str x2_Look_User, .str x2_Look_Box, .int .i64 x2_Look_Valid, .sl 1 x2_Look_Uids_r]]⟩)] } : St) := by
        subst hR
        refine dwp_next (is := [0, 1, 2, 3, 4, 5, 6, 7, 8, 9, 10, 11, 12]) rfl ?_
        refine allRdy_some rfl ?_ ?_
        · skip
          refine run_aops hA 1 _ _ _ _ (by cbv) ?_
          exact ops_done (dwp_to [] (by cbv) rfl H_0_1_2_3_4_7_8_9)
        refine allRdy_none rfl ?_
        refine allRdy_none rfl ?_
        refine allRdy_none rfl ?_
        refine allRdy_none rfl ?_
        refine allRdy_some rfl ?_ ?_
        · skip
          refine ops_step rfl rfl (str_add rfl rfl rfl hs6 bs6) ?_
          exact ops_done (dwp_to [] (by cbv) rfl H_1_2_3_4_5_7_8_9)
        refine allRdy_none rfl ?_
        refine allRdy_none rfl ?_
        refine allRdy_none rfl ?_
        refine allRdy_none rfl ?_
        refine allRdy_none rfl ?_
        refine allRdy_none rfl ?_
        refine allRdy_none rfl ?_
        exact trivial
      have H_0_1_2_3_4_5 : dwp T ⟨Real Tryd.prog, RealM Tryd.prog, RealC Tryd.prog⟩ R K 7 [true, true, true, true, true, true, false, false, false, false, false, false, false] ({ sl := [.bad, .bad, .bad, .str S, .bad, .pt 5 0 0, .sl 17 xs_r, .int .i64 (A.rlen xs_r), .int .i64 n, .bool (A.cmp .lss n (A.rlen xs_r)), .rd [.int .i64 x2_Kind, .str x2_In, .str x2_Out, .bool x2_Over, .int .i64 x2_Bring_State, .str x2_Bring_From, .sl 1 x2_Bring_To_r, .sl 1 x2_Bring_Data_r, .int .i64 x2_Fetch_State, .str x2_Fetch_User, .sl 3 x2_Fetch_Mails_r, .sl 1 x2_Fetch_Gone_r, .int .i64 x2_Look_State, .str x2_Look_User, .str x2_Look_Box, .int .i64 x2_Look_Valid, .sl 1 x2_Look_Uids_r], .agg [.int .i64 x2_Kind, .str x2_In, .str x2_Out, .bool x2_Over, .int .i64 x2_Bring_State, .str x2_Bring_From, .sl 1 x2_Bring_To_r, .sl 1 x2_Bring_Data_r, .int .i64 x2_Fetch_State, .str x2_Fetch_User, .sl 3 x2_Fetch_Mails_r, .sl 1 x2_Fetch_Gone_r, .int .i64 x2_Look_State, .str x2_Look_User, .str x2_Look_Box, .int .i64 x2_Look_Valid, .sl 1 x2_Look_Uids_r], .str S, .pt 5 0 0, .int .i64 x2_Kind, .int .i64 m3, .str v16_4, .str s6, .bad, .bad, .bad, .bad, .bad, .bad, .bad, .bad], bl := [(5, ⟨.var, 17, [[.int .i64 x2_Kind, .str x2_In, .str x2_Out, .bool x2_Over, .int .i64 x2_Bring_State, .str x2_Bring_From, .sl 1 x2_Bring_To_r, .sl 1 x2_Bring_Data_r, .int .i64 x2_Fetch_State, .str x2_Fetch_User, .sl 3 x2_Fetch_Mails_r, .sl 1 x2_Fetch_Gone_r, .int .i64 x2_Look_State, .str x2_Look_User, .str x2_Look_Box, .int .i64 x2_Look_Valid, .sl 1 x2_Look_Uids_r]]⟩)] } : St) := by
        subst hR
        refine dwp_next (is := [0, 1, 2, 3, 4, 5, 6, 7, 8, 9, 10, 11, 12]) rfl ?_
        refine allRdy_none rfl ?_
        refine allRdy_none rfl ?_
        refine allRdy_none rfl ?_
        refine allRdy_none rfl ?_
        refine allRdy_none rfl ?_
        refine allRdy_none rfl ?_
        refine allRdy_some rfl ?_ ?_
        · skip
          refine ops_step rfl rfl (str_add rfl rfl rfl hs7 bs7) ?_
          exact ops_done (dwp_to [] (by cbv) rfl H_0_1_2_3_4_5_6)
        refine allRdy_some rfl ?_ ?_
        · skip
          refine run_aops hA 1 _ _ _ _ (by cbv) ?_
          exact ops_done (dwp_to [] (by cbv) rfl H_0_1_2_3_4_5_7)
        refine allRdy_none rfl ?_
        refine allRdy_none rfl ?_
        refine allRdy_none rfl ?_
        refine allRdy_none rfl ?_
        refine allRdy_none rfl ?_
        exact trivial
      have H_0_1_2_3_4_7 : dwp T ⟨Real Tryd.prog, RealM Tryd.prog, RealC Tryd.prog⟩ R K 7 [true, true, true, true, true, false, false, true, false, false, false, false, false] ({ sl := [.bad, .bad, .bad, .str S, .bad, .pt 5 0 0, .sl 17 xs_r, .int .i64 (A.rlen xs_r), .int .i64 n, .bool (A.cmp .lss n (A.rlen xs_r)), .rd [.int .i64 x2_Kind, .str x2_In, .str x2_Out, .bool x2_Over, .int .i64 x2_Bring_State, .str x2_Bring_From, .sl 1 x2_Bring_To_r, .sl 1 x2_Bring_Data_r, .int .i64 x2_Fetch_State, .str x2_Fetch_User, .sl 3 x2_Fetch_Mails_r, .sl 1 x2_Fetch_Gone_r, .int .i64 x2_Look_State, .str x2_Look_User, .str x2_Look_Box, .int .i64 x2_Look_Valid, .sl 1 x2_Look_Uids_r], .agg [.int .i64 x2_Kind, .str x2_In, .str x2_Out, .bool x2_Over, .int .i64 x2_Bring_State, .str x2_Bring_From, .sl 1 x2_Bring_To_r, .sl 1 x2_Bring_Data_r, .int .i64 x2_Fetch_State, .str x2_Fetch_User, .sl 3 x2_Fetch_Mails_r, .sl 1 x2_Fetch_Gone_r, .int .i64 x2_Look_State, .str x2_Look_User, .str x2_Look_Box, .int .i64 x2_Look_Valid, .sl 1 x2_Look_Uids_r], .str S, .pt 5 0 0, .int .i64 x2_Kind, .int .i64 m3, .str v16_4, .bad, .bad, .pt 5 0 2, .bad, .bad, .bad, .bad, .bad, .bad], bl := [(5, ⟨.var, 17, [[.int .i64 x2_Kind, .str x2_In, .str x2_Out, .bool x2_Over, .int .i64 x2_Bring_State, .str x2_Bring_From, .sl 1 x2_Bring_To_r, .sl 1 x2_Bring_Data_r, .int .i64 x2_Fetch_State, .str x2_Fetch_User, .sl 3 x2_Fetch_Mails_r, .sl 1 x2_Fetch_Gone_r, .int .i64 x2_Look_State, .str x2_Look_User, .str x2_Look_Box, .int .i64 x2_Look_Valid, .sl 1 x2_Look_Uids_r]]⟩)] } : St) := by
        subst hR
        refine dwp_next (is := [0, 1, 2, 3, 4, 5, 6, 7, 8, 9, 10, 11, 12]) rfl ?_
        refine allRdy_none rfl ?_
        refine allRdy_none rfl ?_
        refine allRdy_none rfl ?_
        refine allRdy_none rfl ?_
        refine allRdy_none rfl ?_
        refine allRdy_some rfl ?_ ?_
        · skip
          refine ops_step rfl rfl (str_add rfl rfl rfl hs6 bs6) ?_
          exact ops_done (dwp_to [] (by cbv) rfl H_0_1_2_3_4_5_7)
        refine allRdy_none rfl ?_
        refine allRdy_none rfl ?_
        refine allRdy_some rfl ?_ ?_
        · skip
          refine run_aops hA 1 _ _ _ _ (by cbv) ?_
          exact ops_done (dwp_to [] (by cbv) rfl H_0_1_2_3_4_7_8)
        refine allRdy_none rfl ?_
        refine allRdy_none rfl ?_
        refine allRdy_none rfl ?_
        refine allRdy_none rfl ?_
        exact trivial
      have H_0_1_2_3_7_8 : dwp T ⟨Real Tryd.prog, RealM Tryd.prog, RealC Tryd.prog⟩ R K 7 [true, true, true, true, false, false, false, true, true, false, false, false, false] ({ sl := [.bad, .bad, .bad, .str S, .bad, .pt 5 0 0, .sl 17 xs_r, .int .i64 (A.rlen xs_r), .int .i64 n, .bool (A.cmp .lss n (A.rlen xs_r)), .rd [.int .i64 x2_Kind, .str x2_In, .str x2_Out, .bool x2_Over, .int .i64 x2_Bring_State, .str x2_Bring_From, .sl 1 x2_Bring_To_r, .sl 1 x2_Bring_Data_r, .int .i64 x2_Fetch_State, .str x2_Fetch_User, .sl 3 x2_Fetch_Mails_r, .sl 1 x2_Fetch_Gone_r, .int .i64 x2_Look_State, .str x2_Look_User, .str x2_Look_Box, .int .i64 x2_Look_Valid, .sl 1 x2_Look_Uids_r], .agg [.int .i64 x2_Kind, .str x2_In, .str x2_Out, .bool x2_Over, .int .i64 x2_Bring_State, .str x2_Bring_From, .sl 1 x2_Bring_To_r, .sl 1 x2_Bring_Data_r, .int .i64 x2_Fetch_State, .str x2_Fetch_User, .sl 3 x2_Fetch_Mails_r, .sl 1 x2_Fetch_Gone_r, .int .i64 x2_Look_State, .str x2_Look_User, .str x2_Look_Box, .int .i64 x2_Look_Valid, .sl 1 x2_Look_Uids_r], .str S, .pt 5 0 0, .int .i64 x2_Kind, .int .i64 m3, .bad, .bad, .bad, .pt 5 0 2, .str x2_Out, .bad, .bad, .bad, .bad, .bad], bl := [(5, ⟨.var, 17, [[.int .i64 x2_Kind, .str x2_In, .str x2_Out, .bool x2_Over, .int .i64 x2_Bring_State, .str x2_Bring_From, .sl 1 x2_Bring_To_r, .sl 1 x2_Bring_Data_r, .int .i64 x2_Fetch_State, .str x2_Fetch_User, .sl 3 x2_Fetch_Mails_r, .sl 1 x2_Fetch_Gone_r, .int .i64 x2_Look_State, .str x2_Look_User, .str x2_Look_Box, .int .i64 x2_Look_Valid, .sl 1 x2_Look_Uids_r]]⟩)] } : St) := by
        subst hR
        refine dwp_next (is := [0, 1, 2, 3, 4, 5, 6, 7, 8, 9, 10, 11, 12]) rfl ?_
        refine allRdy_none rfl ?_
        refine allRdy_none rfl ?_
        refine allRdy_none rfl ?_
        refine allRdy_none rfl ?_
        refine allRdy_some rfl ?_ ?_
        · skip
          refine ops_callV rfl rfl (by cbv) (by cbv) hc5 (.inr rfl) (by cbv) ?_
          exact ops_done (dwp_to [] (by cbv) rfl H_0_1_2_3_4_7_8)
        refine allRdy_none rfl ?_
        refine allRdy_none rfl ?_
        refine allRdy_none rfl ?_
        refine allRdy_none rfl ?_
        refine allRdy_none rfl ?_
        refine allRdy_none rfl ?_
        refine allRdy_none rfl ?_
        refine allRdy_none rfl ?_
        exact trivial
      have H_1_2_3_4_5_6 : dwp T ⟨Real Tryd.prog, RealM Tryd.prog, RealC Tryd.prog⟩ R K 7 [false, true, true, true, true, true, true, false, false, false, false, false, false] ({ sl := [.bad, .bad, .bad, .str S, .bad, .pt 5 0 0, .sl 17 xs_r, .int .i64 (A.rlen xs_r), .int .i64 n, .bool (A.cmp .lss n (A.rlen xs_r)), .rd [.int .i64 x2_Kind, .str x2_In, .str x2_Out, .bool x2_Over, .int .i64 x2_Bring_State, .str x2_Bring_From, .sl 1 x2_Bring_To_r, .sl 1 x2_Bring_Data_r, .int .i64 x2_Fetch_State, .str x2_Fetch_User, .sl 3 x2_Fetch_Mails_r, .sl 1 x2_Fetch_Gone_r, .int .i64 x2_Look_State, .str x2_Look_User, .str x2_Look_Box, .int .i64 x2_Look_Valid, .sl 1 x2_Look_Uids_r], .agg [.int .i64 x2_Kind, .str x2_In, .str x2_Out, .bool x2_Over, .int .i64 x2_Bring_State, .str x2_Bring_From, .sl 1 x2_Bring_To_r, .sl 1 x2_Bring_Data_r, .int .i64 x2_Fetch_State, .str x2_Fetch_User, .sl 3 x2_Fetch_Mails_r, .sl 1 x2_Fetch_Gone_r, .int .i64 x2_Look_State, .str x2_Look_User, .str x2_Look_Box, .int .i64 x2_Look_Valid, .sl 1 x2_Look_Uids_r], .bad, .pt 5 0 0, .int .i64 x2_Kind, .int .i64 m3, .str v16_4, .str s6, .str s7, .bad, .bad, .bad, .bad, .bad, .bad, .bad], bl := [(5, ⟨.var, 17, [[.int .i64 x2_Kind, .str x2_In, .str x2_Out, .bool x2_Over, .int .i64 x2_Bring_State, .str x2_Bring_From, .sl 1 x2_Bring_To_r, .sl 1 x2_Bring_Data_r, .int .i64 x2_Fetch_State, .str x2_Fetch_User, .sl 3 x2_Fetch_Mails_r, .sl 1 x2_Fetch_Gone_r, .int .i64 x2_Look_State, .str x2_Look_User, .str x2_Look_Box, .int .i64 x2_Look_Valid, .sl 1 x2_Look_Uids_r]]⟩)] } : St) := by
        subst hR
        refine dwp_next (is := [0, 1, 2, 3, 4, 5, 6, 7, 8, 9, 10, 11, 12]) rfl ?_
        refine allRdy_some rfl ?_ ?_
        · skip
          refine run_aops hA 1 _ _ _ _ (by cbv) ?_
          exact ops_done (dwp_to [] (by cbv) rfl H_0_1_2_3_4_5_6)
        refine allRdy_none rfl ?_
        refine allRdy_none rfl ?_
        refine allRdy_none rfl ?_
        refine allRdy_none rfl ?_
        refine allRdy_none rfl ?_
        refine allRdy_none rfl ?_
        refine allRdy_some rfl ?_ ?_
        · skip
          refine run_aops hA 1 _ _ _ _ (by cbv) ?_
          exact ops_done (dwp_to [] (by cbv) rfl H_1_2_3_4_5_6_7)
        refine allRdy_none rfl ?_
        refine allRdy_none rfl ?_
        refine allRdy_none rfl ?_
        refine allRdy_none rfl ?_
        refine allRdy_none rfl ?_
        exact trivial
      have H_1_2_3_4_5_7 : dwp T ⟨Real Tryd.prog, RealM Tryd.prog, RealC Tryd.prog⟩ R K 7 [false, true, true, true, true, true, false, true, false, false, false, false, false] ({ sl := [.bad, .bad, .bad, .str S, .bad, .pt 5 0 0, .sl 17 xs_r, .int .i64 (A.rlen xs_r), .int .i64 n, .bool (A.cmp .lss n (A.rlen xs_r)), .rd [.int .i64 x2_Kind, .str x2_In, .str x2_Out, .bool x2_Over, .int .i64 x2_Bring_State, .str x2_Bring_From, .sl 1 x2_Bring_To_r, .sl 1 x2_Bring_Data_r, .int .i64 x2_Fetch_State, .str x2_Fetch_User, .sl 3 x2_Fetch_Mails_r, .sl 1 x2_Fetch_Gone_r, .int .i64 x2_Look_State, .str x2_Look_User, .str x2_Look_Box, .int .i64 x2_Look_Valid, .sl 1 x2_Look_Uids_r], .agg [.int .i64 x2_Kind, .str x2_In, .str x2_Out, .bool x2_Over, .int .i64 x2_Bring_State, .str x2_Bring_From, .sl 1 x2_Bring_To_r, .sl 1 x2_Bring_Data_r, .int .i64 x2_Fetch_State, .str x2_Fetch_User, .sl 3 x2_Fetch_Mails_r, .sl 1 x2_Fetch_Gone_r, .int .i64 x2_Look_State, .str x2_Look_User, .str x2_Look_Box, .int .i64 x2_Look_Valid, .sl 1 x2_Look_Uids_r], .bad, .pt 5 0 0, .int .i64 x2_Kind, .int .i64 m3, .str v16_4, .str s6, .bad, .pt 5 0 2, .bad, .bad, .bad, .bad, .bad, .bad], bl := [(5, ⟨.var, 17, [[.int .i64 x2_Kind, .str x2_In, .str x2_Out, .bool x2_Over, .int .i64 x2_Bring_State, .str x2_Bring_From, .sl 1 x2_Bring_To_r, .sl 1 x2_Bring_Data_r, .int .i64 x2_Fetch_State, .str x2_Fetch_User, .sl 3 x2_Fetch_Mails_r, .sl 1 x2_Fetch_Gone_r, .int .i64 x2_Look_State, .str x2_Look_User, .str x2_Look_Box, .int .i64 x2_Look_Valid, .sl 1 x2_Look_Uids_r]]⟩)] } : St) := by
        subst hR
        refine dwp_next (is := [0, 1, 2, 3, 4, 5, 6, 7, 8, 9, 10, 11, 12]) rfl ?_
        refine allRdy_some rfl ?_ ?_
        · skip
          refine run_aops hA 1 _ _ _ _ (by cbv) ?_
          exact ops_done (dwp_to [] (by cbv) rfl H_0_1_2_3_4_5_7)
        refine allRdy_none rfl ?_
        refine allRdy_none rfl ?_
        refine allRdy_none rfl ?_
        refine allRdy_none rfl ?_
        refine allRdy_none rfl ?_
        refine allRdy_some rfl ?_ ?_
        · skip
          refine ops_step rfl rfl (str_add rfl rfl rfl hs7 bs7) ?_
          exact ops_done (dwp_to [] (by cbv) rfl H_1_2_3_4_5_6_7)
        refine allRdy_none rfl ?_
        refine allRdy_some rfl ?_ ?_
        · skip
          refine run_aops hA 1 _ _ _ _ (by cbv) ?_
          exact ops_done (dwp_to [] (by cbv) rfl H_1_2_3_4_5_7_8)
        refine allRdy_none rfl ?_
        refine allRdy_none rfl ?_
        refine allRdy_none rfl ?_
        refine allRdy_none rfl ?_
        exact trivial
      have H_1_2_3_4_7_8 : dwp T ⟨Real Tryd.prog, RealM Tryd.prog, RealC Tryd.prog⟩ R K 7 [false, true, true, true, true, false, false, true, true, false, false, false, false] ({ sl := [.bad, .bad, .bad, .str S, .bad, .pt 5 0 0, .sl 17 xs_r, .int .i64 (A.rlen xs_r), .int .i64 n, .bool (A.cmp .lss n (A.rlen xs_r)), .rd [.int .i64 x2_Kind, .str x2_In, .str x2_Out, .bool x2_Over, .int .i64 x2_Bring_State, .str x2_Bring_From, .sl 1 x2_Bring_To_r, .sl 1 x2_Bring_Data_r, .int .i64 x2_Fetch_State, .str x2_Fetch_User, .sl 3 x2_Fetch_Mails_r, .sl 1 x2_Fetch_Gone_r, .int .i64 x2_Look_State, .str x2_Look_User, .str x2_Look_Box, .int .i64 x2_Look_Valid, .sl 1 x2_Look_Uids_r], .agg [.int .i64 x2_Kind, .str x2_In, .str x2_Out, .bool x2_Over, .int .i64 x2_Bring_State, .str x2_Bring_From, .sl 1 x2_Bring_To_r, .sl 1 x2_Bring_Data_r, .int .i64 x2_Fetch_State, .str x2_Fetch_User, .sl 3 x2_Fetch_Mails_r, .sl 1 x2_Fetch_Gone_r, .int .i64 x2_Look_State, .str x2_Look_User, .str x2_Look_Box, .int .i64 x2_Look_Valid, .sl 1 x2_Look_Uids_r], .bad, .pt 5 0 0, .int .i64 x2_Kind, .int .i64 m3, .str v16_4, .bad, .bad, .pt 5 0 2, .str x2_Out, .bad, .bad, .bad, .bad, .bad], bl := [(5, ⟨.var, 17, [[.int .i64 x2_Kind, .str x2_In, .str x2_Out, .bool x2_Over, .int .i64 x2_Bring_State, .str x2_Bring_From, .sl 1 x2_Bring_To_r, .sl 1 x2_Bring_Data_r, .int .i64 x2_Fetch_State, .str x2_Fetch_User, .sl 3 x2_Fetch_Mails_r, .sl 1 x2_Fetch_Gone_r, .int .i64 x2_Look_State, .str x2_Look_User, .str x2_Look_Box, .int .i64 x2_Look_Valid, .sl 1 x2_Look_Uids_r]]⟩)] } : St) := by
        subst hR
        refine dwp_next (is := [0, 1, 2, 3, 4, 5, 6, 7, 8, 9, 10, 11, 12]) rfl ?_
        refine allRdy_some rfl ?_ ?_
        · skip
          refine run_aops hA 1 _ _ _ _ (by cbv) ?_
          exact ops_done (dwp_to [] (by cbv) rfl H_0_1_2_3_4_7_8)
        refine allRdy_none rfl ?_
        refine allRdy_none rfl ?_
        refine allRdy_none rfl ?_
        refine allRdy_none rfl ?_
        refine allRdy_some rfl ?_ ?_
        · skip
          refine ops_step rfl rfl (str_add rfl rfl rfl hs6 bs6) ?_
          exact ops_done (dwp_to [] (by cbv) rfl H_1_2_3_4_5_7_8)
        refine allRdy_none rfl ?_
        refine allRdy_none rfl ?_
        refine allRdy_none rfl ?_
        refine allRdy_some rfl ?_ ?_
        · skip
          refine ops_callV rfl rfl (by cbv) (by cbv) hc9 (.inr rfl) (by cbv) ?_
          exact ops_done (dwp_to [] (by cbv) rfl H_1_2_3_4_7_8_9)
        refine allRdy_none rfl ?_
        refine allRdy_none rfl ?_
        refine allRdy_none rfl ?_
        exact trivial
      have H_0_1_2_3_4 : dwp T ⟨Real Tryd.prog, RealM Tryd.prog, RealC Tryd.prog⟩ R K 8 [true, true, true, true, true, false, false, false, false, false, false, false, false] ({ sl := [.bad, .bad, .bad, .str S, .bad, .pt 5 0 0, .sl 17 xs_r, .int .i64 (A.rlen xs_r), .int .i64 n, .bool (A.cmp .lss n (A.rlen xs_r)), .rd [.int .i64 x2_Kind, .str x2_In, .str x2_Out, .bool x2_Over, .int .i64 x2_Bring_State, .str x2_Bring_From, .sl 1 x2_Bring_To_r, .sl 1 x2_Bring_Data_r, .int .i64 x2_Fetch_State, .str x2_Fetch_User, .sl 3 x2_Fetch_Mails_r, .sl 1 x2_Fetch_Gone_r, .int .i64 x2_Look_State, .str x2_Look_User, .str x2_Look_Box, .int .i64 x2_Look_Valid, .sl 1 x2_Look_Uids_r], .agg [.int .i64 x2_Kind, .str x2_In, .str x2_Out, .bool x2_Over, .int .i64 x2_Bring_State, .str x2_Bring_From, .sl 1 x2_Bring_To_r, .sl 1 x2_Bring_Data_r, .int .i64 x2_Fetch_State, .str x2_Fetch_User, .sl 3 x2_Fetch_Mails_r, .sl 1 x2_Fetch_Gone_r, .int .i64 x2_Look_State, .str x2_Look_User, .str x2_Look_Box, .int .i64 x2_Look_Valid, .sl 1 x2_Look_Uids_r], .str S, .pt 5 0 0, .int .i64 x2_Kind, .int .i64 m3, .str v16_4, .bad, .bad, .bad, .bad, .bad, .bad, .bad, .bad, .bad], bl := [(5, ⟨.var, 17, [[.int .i64 x2_Kind, .str x2_In, .str x2_Out, .bool x2_Over, .int .i64 x2_Bring_State, .str x2_Bring_From, .sl 1 x2_Bring_To_r, .sl 1 x2_Bring_Data_r, .int .i64 x2_Fetch_State, .str x2_Fetch_User, .sl 3 x2_Fetch_Mails_r, .sl 1 x2_Fetch_Gone_r, .int .i64 x2_Look_State, .str x2_Look_User, .str x2_Look_Box, .int .i64 x2_Look_Valid, .sl 1 x2_Look_Uids_r]]⟩)] } : St) := by
        subst hR
        refine dwp_next (is := [0, 1, 2, 3, 4, 5, 6, 7, 8, 9, 10, 11, 12]) rfl ?_
        refine allRdy_none rfl ?_
        refine allRdy_none rfl ?_
        refine allRdy_none rfl ?_
        refine allRdy_none rfl ?_
        refine allRdy_none rfl ?_
        refine allRdy_some rfl ?_ ?_
        · skip
          refine ops_step rfl rfl (str_add rfl rfl rfl hs6 bs6) ?_
          exact ops_done (dwp_to [] (by cbv) rfl H_0_1_2_3_4_5)
        refine allRdy_none rfl ?_
        refine allRdy_some rfl ?_ ?_
        · skip
          refine run_aops hA 1 _ _ _ _ (by cbv) ?_
          exact ops_done (dwp_to [] (by cbv) rfl H_0_1_2_3_4_7)
        refine allRdy_none rfl ?_
        refine allRdy_none rfl ?_
        refine allRdy_none rfl ?_
        refine allRdy_none rfl ?_
        refine allRdy_none rfl ?_
        exact trivial
      have H_0_1_2_3_7 : dwp T ⟨Real Tryd.prog, RealM Tryd.prog, RealC Tryd.prog⟩ R K 8 [true, true, true, true, false, false, false, true, false, false, false, false, false] ({ sl := [.bad, .bad, .bad, .str S, .bad, .pt 5 0 0, .sl 17 xs_r, .int .i64 (A.rlen xs_r), .int .i64 n, .bool (A.cmp .lss n (A.rlen xs_r)), .rd [.int .i64 x2_Kind, .str x2_In, .str x2_Out, .bool x2_Over, .int .i64 x2_Bring_State, .str x2_Bring_From, .sl 1 x2_Bring_To_r, .sl 1 x2_Bring_Data_r, .int .i64 x2_Fetch_State, .str x2_Fetch_User, .sl 3 x2_Fetch_Mails_r, .sl 1 x2_Fetch_Gone_r, .int .i64 x2_Look_State, .str x2_Look_User, .str x2_Look_Box, .int .i64 x2_Look_Valid, .sl 1 x2_Look_Uids_r], .agg [.int .i64 x2_Kind, .str x2_In, .str x2_Out, .bool x2_Over, .int .i64 x2_Bring_State, .str x2_Bring_From, .sl 1 x2_Bring_To_r, .sl 1 x2_Bring_Data_r, .int .i64 x2_Fetch_State, .str x2_Fetch_User, .sl 3 x2_Fetch_Mails_r, .sl 1 x2_Fetch_Gone_r, .int .i64 x2_Look_State, .str x2_Look_User, .str x2_Look_Box, .int .i64 x2_Look_Valid, .sl 1 x2_Look_Uids_r], .str S, .pt 5 0 0, .int .i64 x2_Kind, .int .i64 m3, .bad, .bad, .bad, .pt 5 0 2, .bad, .bad, .bad, .bad, .bad, .bad], bl := [(5, ⟨.var, 17, [[.int .i64 x2_Kind, .str x2_In, .str x2_Out, .bool x2_Over, .int .i64 x2_Bring_State, .str x2_Bring_From, .sl 1 x2_Bring_To_r, .sl 1 x2_Bring_Data_r, .int .i64 x2_Fetch_State, .str x2_Fetch_User, .sl 3 x2_Fetch_Mails_r, .sl 1 x2_Fetch_Gone_r, .int .i64 x2_Look_State, .str x2_Look_User, .str x2_Look_Box, .int .i64 x2_Look_Valid, .sl 1 x2_Look_Uids_r]]⟩)] } : St) := by
        subst hR
        refine dwp_next (is := [0, 1, 2, 3, 4, 5, 6, 7, 8, 9, 10, 11, 12]) rfl ?_
        refine allRdy_none rfl ?_
        refine allRdy_none rfl ?_
        refine allRdy_none rfl ?_
        refine allRdy_none rfl ?_
        refine allRdy_some rfl ?_ ?_
        · skip
          refine ops_callV rfl rfl (by cbv) (by cbv) hc5 (.inr rfl) (by cbv) ?_
          exact ops_done (dwp_to [] (by cbv) rfl H_0_1_2_3_4_7)
        refine allRdy_none rfl ?_
        refine allRdy_none rfl ?_
        refine allRdy_none rfl ?_
        refine allRdy_some rfl ?_ ?_
        · skip
          refine run_aops hA 1 _ _ _ _ (by cbv) ?_
          exact ops_done (dwp_to [] (by cbv) rfl H_0_1_2_3_7_8)
        refine allRdy_none rfl ?_
        refine allRdy_none rfl ?_
        refine allRdy_none rfl ?_
        refine allRdy_none rfl ?_
        exact trivial
      have H_0_1_2_7_8 : dwp T ⟨Real Tryd.prog, RealM Tryd.prog, RealC Tryd.prog⟩ R K 8 [true, true, true, false, false, false, false, true, true, false, false, false, false] ({ sl := [.bad, .bad, .bad, .str S, .bad, .pt 5 0 0, .sl 17 xs_r, .int .i64 (A.rlen xs_r), .int .i64 n, .bool (A.cmp .lss n (A.rlen xs_r)), .rd [.int .i64 x2_Kind, .str x2_In, .str x2_Out, .bool x2_Over, .int .i64 x2_Bring_State, .str x2_Bring_From, .sl 1 x2_Bring_To_r, .sl 1 x2_Bring_Data_r, .int .i64 x2_Fetch_State, .str x2_Fetch_User, .sl 3 x2_Fetch_Mails_r, .sl 1 x2_Fetch_Gone_r, .int .i64 x2_Look_State, .str x2_Look_User, .str x2_Look_Box, .int .i64 x2_Look_Valid, .sl 1 x2_Look_Uids_r], .agg [.int .i64 x2_Kind, .str x2_In, .str x2_Out, .bool x2_Over, .int .i64 x2_Bring_State, .str x2_Bring_From, .sl 1 x2_Bring_To_r, .sl 1 x2_Bring_Data_r, .int .i64 x2_Fetch_State, .str x2_Fetch_User, .sl 3 x2_Fetch_Mails_r, .sl 1 x2_Fetch_Gone_r, .int .i64 x2_Look_State, .str x2_Look_User, .str x2_Look_Box, .int .i64 x2_Look_Valid, .sl 1 x2_Look_Uids_r], .str S, .pt 5 0 0, .int .i64 x2_Kind, .bad, .bad, .bad, .bad, .pt 5 0 2, .str x2_Out, .bad, .bad, .bad, .bad, .bad], bl := [(5, ⟨.var, 17, [[.int .i64 x2_Kind, .str x2_In, .str x2_Out, .bool x2_Over, .int .i64 x2_Bring_State, .str x2_Bring_From, .sl 1 x2_Bring_To_r, .sl 1 x2_Bring_Data_r, .int .i64 x2_Fetch_State, .str x2_Fetch_User, .sl 3 x2_Fetch_Mails_r, .sl 1 x2_Fetch_Gone_r, .int .i64 x2_Look_State, .str x2_Look_User, .str x2_Look_Box, .int .i64 x2_Look_Valid, .sl 1 x2_Look_Uids_r]]⟩)] } : St) := by
        subst hR
        refine dwp_next (is := [0, 1, 2, 3, 4, 5, 6, 7, 8, 9, 10, 11, 12]) rfl ?_
        refine allRdy_none rfl ?_
        refine allRdy_none rfl ?_
        refine allRdy_none rfl ?_
        refine allRdy_some rfl ?_ ?_
        · skip
          refine ops_ext rfl (ext_max rfl rfl rfl hm3) ?_
          exact ops_done (dwp_to [] (by cbv) rfl H_0_1_2_3_7_8)
        refine allRdy_none rfl ?_
        refine allRdy_none rfl ?_
        refine allRdy_none rfl ?_
        refine allRdy_none rfl ?_
        refine allRdy_none rfl ?_
        refine allRdy_none rfl ?_
        refine allRdy_none rfl ?_
        refine allRdy_none rfl ?_
        refine allRdy_none rfl ?_
        exact trivial
      have H_1_2_3_4_5 : dwp T ⟨Real Tryd.prog, RealM Tryd.prog, RealC Tryd.prog⟩ R K 8 [false, true, true, true, true, true, false, false, false, false, false, false, false] ({ sl := [.bad, .bad, .bad, .str S, .bad, .pt 5 0 0, .sl 17 xs_r, .int .i64 (A.rlen xs_r), .int .i64 n, .bool (A.cmp .lss n (A.rlen xs_r)), .rd [.int .i64 x2_Kind, .str x2_In, .str x2_Out, .bool x2_Over, .int .i64 x2_Bring_State, .str x2_Bring_From, .sl 1 x2_Bring_To_r, .sl 1 x2_Bring_Data_r, .int .i64 x2_Fetch_State, .str x2_Fetch_User, .sl 3 x2_Fetch_Mails_r, .sl 1 x2_Fetch_Gone_r, .int .i64 x2_Look_State, .str x2_Look_User, .str x2_Look_Box, .int .i64 x2_Look_Valid, .sl 1 x2_Look_Uids_r], .agg [.int .i64 x2_Kind, .str x2_In, .str x2_Out, .bool x2_Over, .int .i64 x2_Bring_State, .str x2_Bring_From, .sl 1 x2_Bring_To_r, .sl 1 x2_Bring_Data_r, .int .i64 x2_Fetch_State, .str x2_Fetch_User, .sl 3 x2_Fetch_Mails_r, .sl 1 x2_Fetch_Gone_r, .int .i64 x2_Look_State, .str x2_Look_User, .str x2_Look_Box, .int .i64 x2_Look_Valid, .sl 1 x2_Look_Uids_r], .bad, .pt 5 0 0, .int .i64 x2_Kind, .int .i64 m3, .str v16_4, .str s6, .bad, .bad, .bad, .bad, .bad, .bad, .bad, .bad], bl := [(5, ⟨.var, 17, [[.int .i64 x2_Kind, .str x2_In, .str x2_Out, .bool x2_Over, .int .i64 x2_Bring_State, .str x2_Bring_From, .sl 1 x2_Bring_To_r, .sl 1 x2_Bring_Data_r, .int .i64 x2_Fetch_State, .str x2_Fetch_User, .sl 3 x2_Fetch_Mails_r, .sl 1 x2_Fetch_Gone_r, .int .i64 x2_Look_State, .str x2_Look_User, .str x2_Look_Box, .int .i64 x2_Look_Valid, .sl 1 x2_Look_Uids_r]]⟩)] } : St) := by
        subst hR
        refine dwp_next (is := [0, 1, 2, 3, 4, 5, 6, 7, 8, 9, 10, 11, 12]) rfl ?_
        refine allRdy_some rfl ?_ ?_
        · skip
          refine run_aops hA 1 _ _ _ _ (by cbv) ?_
          exact ops_done (dwp_to [] (by cbv) rfl H_0_1_2_3_4_5)
        refine allRdy_none rfl ?_
        refine allRdy_none rfl ?_
        refine allRdy_none rfl ?_
        refine allRdy_none rfl ?_
        refine allRdy_none rfl ?_
        refine allRdy_some rfl ?_ ?_
        · skip
          refine ops_step rfl rfl (str_add rfl rfl rfl hs7 bs7) ?_
          exact ops_done (dwp_to [] (by cbv) rfl H_1_2_3_4_5_6)
        refine allRdy_some rfl ?_ ?_
        · skip
          refine run_aops hA 1 _ _ _ _ (by cbv) ?_
          exact ops_done (dwp_to [] (by cbv) rfl H_1_2_3_4_5_7)
        refine allRdy_none rfl ?_
        refine allRdy_none rfl ?_
        refine allRdy_none rfl ?_
        refine allRdy_none rfl ?_
        refine allRdy_none rfl ?_
        exact trivial
      have H_1_2_3_4_7 : dwp T ⟨Real Tryd.prog, RealM Tryd.prog, RealC Tryd.prog⟩ R K 8 [false, true, true, true, true, false, false, true, false, false, false, false, false] ({ sl := [.bad, .bad, .bad, .str S, .bad, .pt 5 0 0, .sl 17 xs_r, .int .i64 (A.rlen xs_r), .int .i64 n, .bool (A.cmp .lss n (A.rlen xs_r)), .rd [.int .i64 x2_Kind, .str x2_In, .str x2_Out, .bool x2_Over, .int .i64 x2_Bring_State, .str x2_Bring_From, .sl 1 x2_Bring_To_r, .sl 1 x2_Bring_Data_r, .int .i64 x2_Fetch_State, .str x2_Fetch_User, .sl 3 x2_Fetch_Mails_r, .sl 1 x2_Fetch_Gone_r, .int .i64 x2_Look_State, .str x2_Look_User, .str x2_Look_Box, .int .i64 x2_Look_Valid, .sl 1 x2_Look_Uids_r], .agg [.int .i64 x2_Kind, .str x2_In, .str x2_Out, .bool x2_Over, .int .i64 x2_Bring_State, .str x2_Bring_From, .sl 1 x2_Bring_To_r, .sl 1 x2_Bring_Data_r, .int .i64 x2_Fetch_State, .str x2_Fetch_User, .sl 3 x2_Fetch_Mails_r, .sl 1 x2_Fetch_Gone_r, .int .i64 x2_Look_State, .str x2_Look_User, .str x2_Look_Box, .int .i64 x2_Look_Valid, .sl 1 x2_Look_Uids_r], .bad, .pt 5 0 0, .int .i64 x2_Kind, .int .i64 m3, .str v16_4, .bad, .bad, .pt 5 0 2, .bad, .bad, .bad, .bad, .bad, .bad], bl := [(5, ⟨.var, 17, [[.int .i64 x2_Kind, .str x2_In, .str x2_Out, .bool x2_Over, .int .i64 x2_Bring_State, .str x2_Bring_From, .sl 1 x2_Bring_To_r, .sl 1 x2_Bring_Data_r, .int .i64 x2_Fetch_State, .str x2_Fetch_User, .sl 3 x2_Fetch_Mails_r, .sl 1 x2_Fetch_Gone_r, .int .i64 x2_Look_State, .str x2_Look_User, .str x2_Look_Box, .int .i64 x2_Look_Valid, .sl 1 x2_Look_Uids_r]]⟩)] } : St) := by
        subst hR
        refine dwp_next (is := [0, 1, 2, 3, 4, 5, 6, 7, 8, 9, 10, 11, 12]) rfl ?_
        refine allRdy_some rfl ?_ ?_
        · skip
          refine run_aops hA 1 _ _ _ _ (by cbv) ?_
          exact ops_done (dwp_to [] (by cbv) rfl H_0_1_2_3_4_7)
        refine allRdy_none rfl ?_
        refine allRdy_none rfl ?_
        refine allRdy_none rfl ?_
        refine allRdy_none rfl ?_
        refine allRdy_some rfl ?_ ?_
        · skip
          refine ops_step rfl rfl (str_add rfl rfl rfl hs6 bs6) ?_
          exact ops_done (dwp_to [] (by cbv) rfl H_1_2_3_4_5_7)
        refine allRdy_none rfl ?_
        refine allRdy_none rfl ?_
        refine allRdy_some rfl ?_ ?_
        · skip
          refine run_aops hA 1 _ _ _ _ (by cbv) ?_
          exact ops_done (dwp_to [] (by cbv) rfl H_1_2_3_4_7_8)
        refine allRdy_none rfl ?_
        refine allRdy_none rfl ?_
        refine allRdy_none rfl ?_
        refine allRdy_none rfl ?_
        exact trivial
      have H_1_2_3_7_8 : dwp T ⟨Real Tryd.prog, RealM Tryd.prog, RealC Tryd.prog⟩ R K 8 [false, true, true, true, false, false, false, true, true, false, false, false, false] ({ sl := [.bad, .bad, .bad, .str S, .bad, .pt 5 0 0, .sl 17 xs_r, .int .i64 (A.rlen xs_r), .int .i64 n, .bool (A.cmp .lss n (A.rlen xs_r)), .rd [.int .i64 x2_Kind, .str x2_In, .str x2_Out, .bool x2_Over, .int .i64 x2_Bring_State, .str x2_Bring_From, .sl 1 x2_Bring_To_r, .sl 1 x2_Bring_Data_r, .int .i64 x2_Fetch_State, .str x2_Fetch_User, .sl 3 x2_Fetch_Mails_r, .sl 1 x2_Fetch_Gone_r, .int .i64 x2_Look_State, .str x2_Look_User, .str x2_Look_Box, .int .i64 x2_Look_Valid, .sl 1 x2_Look_Uids_r], .agg [.int .i64 x2_Kind, .str x2_In, .str x2_Out, .bool x2_Over, .int .i64 x2_Bring_State, .str x2_Bring_From, .sl 1 x2_Bring_To_r, .sl 1 x2_Bring_Data_r, .int .i64 x2_Fetch_State, .str x2_Fetch_User, .sl 3 x2_Fetch_Mails_r, .sl 1 x2_Fetch_Gone_r, .int .i64 x2_Look_State, .str x2_Look_User, .str x2_Look_Box, .int .i64 x2_Look_Valid, .sl 1 x2_Look_Uids_r], .bad, .pt 5 0 0, .int .i64 x2_Kind, .int .i64 m3, .bad, .bad, .bad, .pt 5 0 2, .str x2_Out, .bad, .bad, .bad, .bad, .bad], bl := [(5, ⟨.var, 17, [[.int .i64 x2_Kind, .str x2_In, .str x2_Out, .bool x2_Over, .int .i64 x2_Bring_State, .str x2_Bring_From, .sl 1 x2_Bring_To_r, .sl 1 x2_Bring_Data_r, .int .i64 x2_Fetch_State, .str x2_Fetch_User, .sl 3 x2_Fetch_Mails_r, .sl 1 x2_Fetch_Gone_r, .int .i64 x2_Look_State, .str x2_Look_User, .str x2_Look_Box, .int .i64 x2_Look_Valid, .sl 1 x2_Look_Uids_r]]⟩)] } : St) := by
        subst hR
        refine dwp_next (is := [0, 1, 2, 3, 4, 5, 6, 7, 8, 9, 10, 11, 12]) rfl ?_
        refine allRdy_some rfl ?_ ?_
        · skip
          refine run_aops hA 1 _ _ _ _ (by cbv) ?_
          exact ops_done (dwp_to [] (by cbv) rfl H_0_1_2_3_7_8)
        refine allRdy_none rfl ?_
        refine allRdy_none rfl ?_
        refine allRdy_none rfl ?_
        refine allRdy_some rfl ?_ ?_
        · skip
          refine ops_callV rfl rfl (by cbv) (by cbv) hc5 (.inr rfl) (by cbv) ?_
          exact ops_done (dwp_to [] (by cbv) rfl H_1_2_3_4_7_8)
        refine allRdy_none rfl ?_
        refine allRdy_none rfl ?_
        refine allRdy_none rfl ?_
        refine allRdy_none rfl ?_
        refine allRdy_none rfl ?_
        refine allRdy_none rfl ?_
        refine allRdy_none rfl ?_
        refine allRdy_none rfl ?_
        exact trivial
      have H_0_1_2_3 : dwp T ⟨Real Tryd.prog, RealM Tryd.prog, RealC Tryd.prog⟩ R K 9 [true, true, true, true, false, false, false, false, false, false, false, false, false] ({ sl := [.bad, .bad, .bad, .str S, .bad, .pt 5 0 0, .sl 17 xs_r, .int .i64 (A.rlen xs_r), .int .i64 n, .bool (A.cmp .lss n (A.rlen xs_r)), .rd [.int .i64 x2_Kind, .str x2_In, .str x2_Out, .bool x2_Over, .int .i64 x2_Bring_State, .str x2_Bring_From, .sl 1 x2_Bring_To_r, .sl 1 x2_Bring_Data_r, .int .i64 x2_Fetch_State, .str x2_Fetch_User, .sl 3 x2_Fetch_Mails_r, .sl 1 x2_Fetch_Gone_r, .int .i64 x2_Look_State, .str x2_Look_User, .str x2_Look_Box, .int .i64 x2_Look_Valid, .sl 1 x2_Look_Uids_r], .agg [.int .i64 x2_Kind, .str x2_In, .str x2_Out, .bool x2_Over, .int .i64 x2_Bring_State, .str x2_Bring_From, .sl 1 x2_Bring_To_r, .sl 1 x2_Bring_Data_r, .int .i64 x2_Fetch_State, .str x2_Fetch_User, .sl 3 x2_Fetch_Mails_r, .sl 1 x2_Fetch_Gone_r, .int .i64 x2_Look_State, .str x2_Look_User, .str x2_Look_Box, .int .i64 x2_Look_Valid, .sl 1 x2_Look_Uids_r], .str S, .pt 5 0 0, .int .i64 x2_Kind, .int .i64 m3, .bad, .bad, .bad, .bad, .bad, .bad, .bad, .bad, .bad, .bad], bl := [(5, ⟨.var, 17, [[.int .i64 x2_Kind, .str x2_In, .str x2_Out, .bool x2_Over, .int .i64 x2_Bring_State, .str x2_Bring_From, .sl 1 x2_Bring_To_r, .sl 1 x2_Bring_Data_r, .int .i64 x2_Fetch_State, .str x2_Fetch_User, .sl 3 x2_Fetch_Mails_r, .sl 1 x2_Fetch_Gone_r, .int .i64 x2_Look_State, .str x2_Look_User, .str x2_Look_Box, .int .i64 x2_Look_Valid, .sl 1 x2_Look_Uids_r]]⟩)] } : St) := by
        subst hR
        refine dwp_next (is := [0, 1, 2, 3, 4, 5, 6, 7, 8, 9, 10, 11, 12]) rfl ?_
        refine allRdy_none rfl ?_
        refine allRdy_none rfl ?_
        refine allRdy_none rfl ?_
        refine allRdy_none rfl ?_
        refine allRdy_some rfl ?_ ?_
        · skip
          refine ops_callV rfl rfl (by cbv) (by cbv) hc5 (.inr rfl) (by cbv) ?_
          exact ops_done (dwp_to [] (by cbv) rfl H_0_1_2_3_4)
        refine allRdy_none rfl ?_
        refine allRdy_none rfl ?_
        refine allRdy_some rfl ?_ ?_
        · skip
          refine run_aops hA 1 _ _ _ _ (by cbv) ?_
          exact ops_done (dwp_to [] (by cbv) rfl H_0_1_2_3_7)
        refine allRdy_none rfl ?_
        refine allRdy_none rfl ?_
        refine allRdy_none rfl ?_
        refine allRdy_none rfl ?_
        refine allRdy_none rfl ?_
        exact trivial
      have H_0_1_2_7 : dwp T ⟨Real Tryd.prog, RealM Tryd.prog, RealC Tryd.prog⟩ R K 9 [true, true, true, false, false, false, false, true, false, false, false, false, false] ({ sl := [.bad, .bad, .bad, .str S, .bad, .pt 5 0 0, .sl 17 xs_r, .int .i64 (A.rlen xs_r), .int .i64 n, .bool (A.cmp .lss n (A.rlen xs_r)), .rd [.int .i64 x2_Kind, .str x2_In, .str x2_Out, .bool x2_Over, .int .i64 x2_Bring_State, .str x2_Bring_From, .sl 1 x2_Bring_To_r, .sl 1 x2_Bring_Data_r, .int .i64 x2_Fetch_State, .str x2_Fetch_User, .sl 3 x2_Fetch_Mails_r, .sl 1 x2_Fetch_Gone_r, .int .i64 x2_Look_State, .str x2_Look_User, .str x2_Look_Box, .int .i64 x2_Look_Valid, .sl 1 x2_Look_Uids_r], .agg [.int .i64 x2_Kind, .str x2_In, .str x2_Out, .bool x2_Over, .int .i64 x2_Bring_State, .str x2_Bring_From, .sl 1 x2_Bring_To_r, .sl 1 x2_Bring_Data_r, .int .i64 x2_Fetch_State, .str x2_Fetch_User, .sl 3 x2_Fetch_Mails_r, .sl 1 x2_Fetch_Gone_r, .int .i64 x2_Look_State, .str x2_Look_User, .str x2_Look_Box, .int .i64 x2_Look_Valid, .sl 1 x2_Look_Uids_r], .str S, .pt 5 0 0, .int .i64 x2_Kind, .bad, .bad, .bad, .bad, .pt 5 0 2, .bad, .bad, .bad, .bad, .bad, .bad], bl := [(5, ⟨.var, 17, [[.int .i64 x2_Kind, .str x2_In, .str x2_Out, .bool x2_Over, .int .i64 x2_Bring_State, .str x2_Bring_From, .sl 1 x2_Bring_To_r, .sl 1 x2_Bring_Data_r, .int .i64 x2_Fetch_State, .str x2_Fetch_User, .sl 3 x2_Fetch_Mails_r, .sl 1 x2_Fetch_Gone_r, .int .i64 x2_Look_State, .str x2_Look_User, .str x2_Look_Box, .int .i64 x2_Look_Valid, .sl 1 x2_Look_Uids_r]]⟩)] } : St) := by
        subst hR
        refine dwp_next (is := [0, 1, 2, 3, 4, 5, 6, 7, 8, 9, 10, 11, 12]) rfl ?_
        refine allRdy_none rfl ?_
        refine allRdy_none rfl ?_
        refine allRdy_none rfl ?_
        refine allRdy_some rfl ?_ ?_
        · skip
          refine ops_ext rfl (ext_max rfl rfl rfl hm3) ?_
          exact ops_done (dwp_to [] (by cbv) rfl H_0_1_2_3_7)
        refine allRdy_none rfl ?_
        refine allRdy_none rfl ?_
        refine allRdy_none rfl ?_
        refine allRdy_none rfl ?_
        refine allRdy_some rfl ?_ ?_
        · skip
          refine run_aops hA 1 _ _ _ _ (by cbv) ?_
          exact ops_done (dwp_to [] (by cbv) rfl H_0_1_2_7_8)
        refine allRdy_none rfl ?_
        refine allRdy_none rfl ?_
        refine allRdy_none rfl ?_
        refine allRdy_none rfl ?_
        exact trivial
      have H_0_1_7_8 : dwp T ⟨Real Tryd.prog, RealM Tryd.prog, RealC Tryd.prog⟩ R K 9 [true, true, false, false, false, false, false, true, true, false, false, false, false] ({ sl := [.bad, .bad, .bad, .str S, .bad, .pt 5 0 0, .sl 17 xs_r, .int .i64 (A.rlen xs_r), .int .i64 n, .bool (A.cmp .lss n (A.rlen xs_r)), .rd [.int .i64 x2_Kind, .str x2_In, .str x2_Out, .bool x2_Over, .int .i64 x2_Bring_State, .str x2_Bring_From, .sl 1 x2_Bring_To_r, .sl 1 x2_Bring_Data_r, .int .i64 x2_Fetch_State, .str x2_Fetch_User, .sl 3 x2_Fetch_Mails_r, .sl 1 x2_Fetch_Gone_r, .int .i64 x2_Look_State, .str x2_Look_User, .str x2_Look_Box, .int .i64 x2_Look_Valid, .sl 1 x2_Look_Uids_r], .agg [.int .i64 x2_Kind, .str x2_In, .str x2_Out, .bool x2_Over, .int .i64 x2_Bring_State, .str x2_Bring_From, .sl 1 x2_Bring_To_r, .sl 1 x2_Bring_Data_r, .int .i64 x2_Fetch_State, .str x2_Fetch_User, .sl 3 x2_Fetch_Mails_r, .sl 1 x2_Fetch_Gone_r, .int .i64 x2_Look_State, .str x2_Look_User, .str x2_Look_Box, .int .i64 x2_Look_Valid, .sl 1 x2_Look_Uids_r], .str S, .pt 5 0 0, .bad, .bad, .bad, .bad, .bad, .pt 5 0 2, .str x2_Out, .bad, .bad, .bad, .bad, .bad], bl := [(5, ⟨.var, 17, [[.int .i64 x2_Kind, .str x2_In, .str x2_Out, .bool x2_Over, .int .i64 x2_Bring_State, .str x2_Bring_From, .sl 1 x2_Bring_To_r, .sl 1 x2_Bring_Data_r, .int .i64 x2_Fetch_State, .str x2_Fetch_User, .sl 3 x2_Fetch_Mails_r, .sl 1 x2_Fetch_Gone_r, .int .i64 x2_Look_State, .str x2_Look_User, .str x2_Look_Box, .int .i64 x2_Look_Valid, .sl 1 x2_Look_Uids_r]]⟩)] } : St) := by
        subst hR
        refine dwp_next (is := [0, 1, 2, 3, 4, 5, 6, 7, 8, 9, 10, 11, 12]) rfl ?_
        refine allRdy_none rfl ?_
        refine allRdy_none rfl ?_
        refine allRdy_some rfl ?_ ?_
        · skip
          refine run_aops hA 1 _ _ _ _ (by cbv) ?_
          exact ops_done (dwp_to [] (by cbv) rfl H_0_1_2_7_8)
        refine allRdy_none rfl ?_
        refine allRdy_none rfl ?_
        refine allRdy_none rfl ?_
        refine allRdy_none rfl ?_
        refine allRdy_none rfl ?_
        refine allRdy_none rfl ?_
        refine allRdy_none rfl ?_
        refine allRdy_none rfl ?_
        refine allRdy_none rfl ?_
        refine allRdy_none rfl ?_
        exact trivial
      have H_1_2_3_4 : dwp T ⟨Real Tryd.prog, RealM Tryd.prog, RealC Tryd.prog⟩ R K 9 [false, true, true, true, true, false, false, false, false, false, false, false, false] ({ sl := [.bad, .bad, .bad, .str S, .bad, .pt 5 0 0, .sl 17 xs_r, .int .i64 (A.rlen xs_r), .int .i64 n, .bool (A.cmp .lss n (A.rlen xs_r)), .rd [.int .i64 x2_Kind, .str x2_In, .str x2_Out, .bool x2_Over, .int .i64 x2_Bring_State, .str x2_Bring_From, .sl 1 x2_Bring_To_r, .sl 1 x2_Bring_Data_r, .int .i64 x2_Fetch_State, .str x2_Fetch_User, .sl 3 x2_Fetch_Mails_r, .sl 1 x2_Fetch_Gone_r, .int .i64 x2_Look_State, .str x2_Look_User, .str x2_Look_Box, .int .i64 x2_Look_Valid, .sl 1 x2_Look_Uids_r], .agg [.int .i64 x2_Kind, .str x2_In, .str x2_Out, .bool x2_Over, .int .i64 x2_Bring_State, .str x2_Bring_From, .sl 1 x2_Bring_To_r, .sl 1 x2_Bring_Data_r, .int .i64 x2_Fetch_State, .str x2_Fetch_User, .sl 3 x2_Fetch_Mails_r, .sl 1 x2_Fetch_Gone_r, .int .i64 x2_Look_State, .str x2_Look_User, .str x2_Look_Box, .int .i64 x2_Look_Valid, .sl 1 x2_Look_Uids_r], .bad, .pt 5 0 0, .int .i64 x2_Kind, .int .i64 m3, .str v16_4, .bad, .bad, .bad, .bad, .bad, .bad, .bad, .bad, .bad], bl := [(5, ⟨.var, 17, [[.int .i64 x2_Kind, .str x2_In, .str x2_Out, .bool x2_Over, .int .i64 x2_Bring_State, .str x2_Bring_From, .sl 1 x2_Bring_To_r, .sl 1 x2_Bring_Data_r, .int .i64 x2_Fetch_State, .str x2_Fetch_User, .sl 3 x2_Fetch_Mails_r, .sl 1 x2_Fetch_Gone_r, .int .i64 x2_Look_State, .str x2_Look_User, .str x2_Look_Box, .int .i64 x2_Look_Valid, .sl 1 x2_Look_Uids_r]]⟩)] } : St) := by
        subst hR
        refine dwp_next (is := [0, 1, 2, 3, 4, 5, 6, 7, 8, 9, 10, 11, 12]) rfl ?_
        refine allRdy_some rfl ?_ ?_
        · skip
          refine run_aops hA 1 _ _ _ _ (by cbv) ?_
          exact ops_done (dwp_to [] (by cbv) rfl H_0_1_2_3_4)
        refine allRdy_none rfl ?_
        refine allRdy_none rfl ?_
        refine allRdy_none rfl ?_
        refine allRdy_none rfl ?_
        refine allRdy_some rfl ?_ ?_
        · skip
          refine ops_step rfl rfl (str_add rfl rfl rfl hs6 bs6) ?_
          exact ops_done (dwp_to [] (by cbv) rfl H_1_2_3_4_5)
        refine allRdy_none rfl ?_
        refine allRdy_some rfl ?_ ?_
        · skip
          refine run_aops hA 1 _ _ _ _ (by cbv) ?_
          exact ops_done (dwp_to [] (by cbv) rfl H_1_2_3_4_7)
        refine allRdy_none rfl ?_
        refine allRdy_none rfl ?_
        refine allRdy_none rfl ?_
        refine allRdy_none rfl ?_
        refine allRdy_none rfl ?_
        exact trivial
      have H_1_2_3_7 : dwp T ⟨Real Tryd.prog, RealM Tryd.prog, RealC Tryd.prog⟩ R K 9 [false, true, true, true, false, false, false, true, false, false, false, false, false] ({ sl := [.bad, .bad, .bad, .str S, .bad, .pt 5 0 0, .sl 17 xs_r, .int .i64 (A.rlen xs_r), .int .i64 n, .bool (A.cmp .lss n (A.rlen xs_r)), .rd [.int .i64 x2_Kind, .str x2_In, .str x2_Out, .bool x2_Over, .int .i64 x2_Bring_State, .str x2_Bring_From, .sl 1 x2_Bring_To_r, .sl 1 x2_Bring_Data_r, .int .i64 x2_Fetch_State, .str x2_Fetch_User, .sl 3 x2_Fetch_Mails_r, .sl 1 x2_Fetch_Gone_r, .int .i64 x2_Look_State, .str x2_Look_User, .str x2_Look_Box, .int .i64 x2_Look_Valid, .sl 1 x2_Look_Uids_r], .agg [.int .i64 x2_Kind, .str x2_In, .str x2_Out, .bool x2_Over, .int .i64 x2_Bring_State, .str x2_Bring_From, .sl 1 x2_Bring_To_r, .sl 1 x2_Bring_Data_r, .int .i64 x2_Fetch_State, .str x2_Fetch_User, .sl 3 x2_Fetch_Mails_r, .sl 1 x2_Fetch_Gone_r, .int .i64 x2_Look_State, .str x2_Look_User, .str x2_Look_Box, .int .i64 x2_Look_Valid, .sl 1 x2_Look_Uids_r], .bad, .pt 5 0 0, .int .i64 x2_Kind, .int .i64 m3, .bad, .bad, .bad, .pt 5 0 2, .bad, .bad, .bad, .bad, .bad, .bad], bl := [(5, ⟨.var, 17, [[.int .i64 x2_Kind, .str x2_In, .str x2_Out, .bool x2_Over, .int .i64 x2_Bring_State, .str x2_Bring_From, .sl 1 x2_Bring_To_r, .sl 1 x2_Bring_Data_r, .int .i64 x2_Fetch_State, .str x2_Fetch_User, .sl 3 x2_Fetch_Mails_r, .sl 1 x2_Fetch_Gone_r, .int .i64 x2_Look_State, .str x2_Look_User, .str x2_Look_Box, .int .i64 x2_Look_Valid, .sl 1 x2_Look_Uids_r]]⟩)] } : St) := by
        subst hR
        refine dwp_next (is := [0, 1, 2, 3, 4, 5, 6, 7, 8, 9, 10, 11, 12]) rfl ?_
        refine allRdy_some rfl ?_ ?_
        · skip
          refine run_aops hA 1 _ _ _ _ (by cbv) ?_
          exact ops_done (dwp_to [] (by cbv) rfl H_0_1_2_3_7)
        refine allRdy_none rfl ?_
        refine allRdy_none rfl ?_
        refine allRdy_none rfl ?_
        refine allRdy_some rfl ?_ ?_
        · skip
          refine ops_callV rfl rfl (by cbv) (by cbv) hc5 (.inr rfl) (by cbv) ?_
          exact ops_done (dwp_to [] (by cbv) rfl H_1_2_3_4_7)
        refine allRdy_none rfl ?_
        refine allRdy_none rfl ?_
        refine allRdy_none rfl ?_
        refine allRdy_some rfl ?_ ?_
        · skip
          refine run_aops hA 1 _ _ _ _ (by cbv) ?_
          exact ops_done (dwp_to [] (by cbv) rfl H_1_2_3_7_8)
        refine allRdy_none rfl ?_
        refine allRdy_none rfl ?_
        refine allRdy_none rfl ?_
        refine allRdy_none rfl ?_
        exact trivial
      have H_1_2_7_8 : dwp T ⟨Real Tryd.prog, RealM Tryd.prog, RealC Tryd.prog⟩ R K 9 [false, true, true, false, false, false, false, true, true, false, false, false, false] ({ sl := [.bad, .bad, .bad, .str S, .bad, .pt 5 0 0, .sl 17 xs_r, .int .i64 (A.rlen xs_r), .int .i64 n, .bool (A.cmp .lss n (A.rlen xs_r)), .rd [.int .i64 x2_Kind, .str x2_In, .str x2_Out, .bool x2_Over, .int .i64 x2_Bring_State, .str x2_Bring_From, .sl 1 x2_Bring_To_r, .sl 1 x2_Bring_Data_r, .int .i64 x2_Fetch_State, .str x2_Fetch_User, .sl 3 x2_Fetch_Mails_r, .sl 1 x2_Fetch_Gone_r, .int .i64 x2_Look_State, .str x2_Look_User, .str x2_Look_Box, .int .i64 x2_Look_Valid, .sl 1 x2_Look_Uids_r], .agg [.int .i64 x2_Kind, .str x2_In, .str x2_Out, .bool x2_Over, .int .i64 x2_Bring_State, .str x2_Bring_From, .sl 1 x2_Bring_To_r, .sl 1 x2_Bring_Data_r, .int .i64 x2_Fetch_State, .str x2_Fetch_User, .sl 3 x2_Fetch_Mails_r, .sl 1 x2_Fetch_Gone_r, .int .i64 x2_Look_State, .str x2_Look_User, .str x2_Look_Box, .int .i64 x2_Look_Valid, .sl 1 x2_Look_Uids_r], .bad, .pt 5 0 0, .int .i64 x2_Kind, .bad, .bad, .bad, .bad, .pt 5 0 2, .str x2_Out, .bad, .bad, .bad, .bad, .bad], bl := [(5, ⟨.var, 17, [[.int .i64 x2_Kind, .str x2_In, .str x2_Out, .bool x2_Over, .int .i64 x2_Bring_State, .str x2_Bring_From, .sl 1 x2_Bring_To_r, .sl 1 x2_Bring_Data_r, .int .i64 x2_Fetch_State, .str x2_Fetch_User, .sl 3 x2_Fetch_Mails_r, .sl 1 x2_Fetch_Gone_r, .int .i64 x2_Look_State, .str x2_Look_User, .str x2_Look_Box, .int .i64 x2_Look_Valid, .sl 1 x2_Look_Uids_r]]⟩)] } : St) := by
        subst hR
        refine dwp_next (is := [0, 1, 2, 3, 4, 5, 6, 7, 8, 9, 10, 11, 12]) rfl ?_
        refine allRdy_some rfl ?_ ?_
        · skip
          refine run_aops hA 1 _ _ _ _ (by cbv) ?_
          exact ops_done (dwp_to [] (by cbv) rfl H_0_1_2_7_8)
        refine allRdy_none rfl ?_
        refine allRdy_none rfl ?_
        refine allRdy_some rfl ?_ ?_
        · skip
          refine ops_ext rfl (ext_max rfl rfl rfl hm3) ?_
          exact ops_done (dwp_to [] (by cbv) rfl H_1_2_3_7_8)
        refine allRdy_none rfl ?_
        refine allRdy_none rfl ?_
        refine allRdy_none rfl ?_
        refine allRdy_none rfl ?_
        refine allRdy_none rfl ?_
        refine allRdy_none rfl ?_
        refine allRdy_none rfl ?_
        refine allRdy_none rfl ?_
        refine allRdy_none rfl ?_
        exact trivial
      have H_0_1_2 : dwp T ⟨Real Tryd.prog, RealM Tryd.prog, RealC Tryd.prog⟩ R K 10 [true, true, true, false, false, false, false, false, false, false, false, false, false] ({ sl := [.bad, .bad, .bad, .str S, .bad, .pt 5 0 0, .sl 17 xs_r, .int .i64 (A.rlen xs_r), .int .i64 n, .bool (A.cmp .lss n (A.rlen xs_r)), .rd [.int .i64 x2_Kind, .str x2_In, .str x2_Out, .bool x2_Over, .int .i64 x2_Bring_State, .str x2_Bring_From, .sl 1 x2_Bring_To_r, .sl 1 x2_Bring_Data_r, .int .i64 x2_Fetch_State, .str x2_Fetch_User, .sl 3 x2_Fetch_Mails_r, .sl 1 x2_Fetch_Gone_r, .int .i64 x2_Look_State, .str x2_Look_User, .str x2_Look_Box, .int .i64 x2_Look_Valid, .sl 1 x2_Look_Uids_r], .agg [.int .i64 x2_Kind, .str x2_In, .str x2_Out, .bool x2_Over, .int .i64 x2_Bring_State, .str x2_Bring_From, .sl 1 x2_Bring_To_r, .sl 1 x2_Bring_Data_r, .int .i64 x2_Fetch_State, .str x2_Fetch_User, .sl 3 x2_Fetch_Mails_r, .sl 1 x2_Fetch_Gone_r, .int .i64 x2_Look_State, .str x2_Look_User, .str x2_Look_Box, .int .i64 x2_Look_Valid, .sl 1 x2_Look_Uids_r], .str S, .pt 5 0 0, .int .i64 x2_Kind, .bad, .bad, .bad, .bad, .bad, .bad, .bad, .bad, .bad, .bad, .bad], bl := [(5, ⟨.var, 17, [[.int .i64 x2_Kind, .str x2_In, .str x2_Out, .bool x2_Over, .int .i64 x2_Bring_State, .str x2_Bring_From, .sl 1 x2_Bring_To_r, .sl 1 x2_Bring_Data_r, .int .i64 x2_Fetch_State, .str x2_Fetch_User, .sl 3 x2_Fetch_Mails_r, .sl 1 x2_Fetch_Gone_r, .int .i64 x2_Look_State, .str x2_Look_User, .str x2_Look_Box, .int .i64 x2_Look_Valid, .sl 1 x2_Look_Uids_r]]⟩)] } : St) := by
        subst hR
        refine dwp_next (is := [0, 1, 2, 3, 4, 5, 6, 7, 8, 9, 10, 11, 12]) rfl ?_
        refine allRdy_none rfl ?_
        refine allRdy_none rfl ?_
        refine allRdy_none rfl ?_
        refine allRdy_some rfl ?_ ?_
        · skip
          refine ops_ext rfl (ext_max rfl rfl rfl hm3) ?_
          exact ops_done (dwp_to [] (by cbv) rfl H_0_1_2_3)
        refine allRdy_none rfl ?_
        refine allRdy_none rfl ?_
        refine allRdy_none rfl ?_
        refine allRdy_some rfl ?_ ?_
        · skip
          refine run_aops hA 1 _ _ _ _ (by cbv) ?_
          exact ops_done (dwp_to [] (by cbv) rfl H_0_1_2_7)
        refine allRdy_none rfl ?_
        refine allRdy_none rfl ?_
        refine allRdy_none rfl ?_
        refine allRdy_none rfl ?_
        refine allRdy_none rfl ?_
        exact trivial
      have H_0_1_7 : dwp T ⟨Real Tryd.prog, RealM Tryd.prog, RealC Tryd.prog⟩ R K 10 [true, true, false, false, false, false, false, true, false, false, false, false, false] ({ sl := [.bad, .bad, .bad, .str S, .bad, .pt 5 0 0, .sl 17 xs_r, .int .i64 (A.rlen xs_r), .int .i64 n, .bool (A.cmp .lss n (A.rlen xs_r)), .rd [.int .i64 x2_Kind, .str x2_In, .str x2_Out, .bool x2_Over, .int .i64 x2_Bring_State, .str x2_Bring_From, .sl 1 x2_Bring_To_r, .sl 1 x2_Bring_Data_r, .int .i64 x2_Fetch_State, .str x2_Fetch_User, .sl 3 x2_Fetch_Mails_r, .sl 1 x2_Fetch_Gone_r, .int .i64 x2_Look_State, .str x2_Look_User, .str x2_Look_Box, .int .i64 x2_Look_Valid, .sl 1 x2_Look_Uids_r], .agg [.int .i64 x2_Kind, .str x2_In, .str x2_Out, .bool x2_Over, .int .i64 x2_Bring_State, .str x2_Bring_From, .sl 1 x2_Bring_To_r, .sl 1 x2_Bring_Data_r, .int .i64 x2_Fetch_State, .str x2_Fetch_User, .sl 3 x2_Fetch_Mails_r, .sl 1 x2_Fetch_Gone_r, .int .i64 x2_Look_State, .str x2_Look_User, .str x2_Look_Box, .int .i64 x2_Look_Valid, .sl 1 x2_Look_Uids_r], .str S, .pt 5 0 0, .bad, .bad, .bad, .bad, .bad, .pt 5 0 2, .bad, .bad, .bad, .bad, .bad, .bad], bl := [(5, ⟨.var, 17, [[.int .i64 x2_Kind, .str x2_In, .str x2_Out, .bool x2_Over, .int .i64 x2_Bring_State, .str x2_Bring_From, .sl 1 x2_Bring_To_r, .sl 1 x2_Bring_Data_r, .int .i64 x2_Fetch_State, .str x2_Fetch_User, .sl 3 x2_Fetch_Mails_r, .sl 1 x2_Fetch_Gone_r, .int .i64 x2_Look_State, .str x2_Look_User, .str x2_Look_Box, .int .i64 x2_Look_Valid, .sl 1 x2_Look_Uids_r]]⟩)] } : St) := by
        subst hR
        refine dwp_next (is := [0, 1, 2, 3, 4, 5, 6, 7, 8, 9, 10, 11, 12]) rfl ?_
        refine allRdy_none rfl ?_
        refine allRdy_none rfl ?_
        refine allRdy_some rfl ?_ ?_
        · skip
          refine run_aops hA 1 _ _ _ _ (by cbv) ?_
          exact ops_done (dwp_to [] (by cbv) rfl H_0_1_2_7)
        refine allRdy_none rfl ?_
        refine allRdy_none rfl ?_
        refine allRdy_none rfl ?_
        refine allRdy_none rfl ?_
        refine allRdy_none rfl ?_
        refine allRdy_some rfl ?_ ?_
        · skip
          refine run_aops hA 1 _ _ _ _ (by cbv) ?_
          exact ops_done (dwp_to [] (by cbv) rfl H_0_1_7_8)
        refine allRdy_none rfl ?_
        refine allRdy_none rfl ?_
        refine allRdy_none rfl ?_
        refine allRdy_none rfl ?_
        exact trivial
      have H_0_7_8 : dwp T ⟨Real Tryd.prog, RealM Tryd.prog, RealC Tryd.prog⟩ R K 10 [true, false, false, false, false, false, false, true, true, false, false, false, false] ({ sl := [.bad, .bad, .bad, .str S, .bad, .pt 5 0 0, .sl 17 xs_r, .int .i64 (A.rlen xs_r), .int .i64 n, .bool (A.cmp .lss n (A.rlen xs_r)), .rd [.int .i64 x2_Kind, .str x2_In, .str x2_Out, .bool x2_Over, .int .i64 x2_Bring_State, .str x2_Bring_From, .sl 1 x2_Bring_To_r, .sl 1 x2_Bring_Data_r, .int .i64 x2_Fetch_State, .str x2_Fetch_User, .sl 3 x2_Fetch_Mails_r, .sl 1 x2_Fetch_Gone_r, .int .i64 x2_Look_State, .str x2_Look_User, .str x2_Look_Box, .int .i64 x2_Look_Valid, .sl 1 x2_Look_Uids_r], .agg [.int .i64 x2_Kind, .str x2_In, .str x2_Out, .bool x2_Over, .int .i64 x2_Bring_State, .str x2_Bring_From, .sl 1 x2_Bring_To_r, .sl 1 x2_Bring_Data_r, .int .i64 x2_Fetch_State, .str x2_Fetch_User, .sl 3 x2_Fetch_Mails_r, .sl 1 x2_Fetch_Gone_r, .int .i64 x2_Look_State, .str x2_Look_User, .str x2_Look_Box, .int .i64 x2_Look_Valid, .sl 1 x2_Look_Uids_r], .str S, .bad, .bad, .bad, .bad, .bad, .bad, .pt 5 0 2, .str x2_Out, .bad, .bad, .bad, .bad, .bad], bl := [(5, ⟨.var, 17, [[.int .i64 x2_Kind, .str x2_In, .str x2_Out, .bool x2_Over, .int .i64 x2_Bring_State, .str x2_Bring_From, .sl 1 x2_Bring_To_r, .sl 1 x2_Bring_Data_r, .int .i64 x2_Fetch_State, .str x2_Fetch_User, .sl 3 x2_Fetch_Mails_r, .sl 1 x2_Fetch_Gone_r, .int .i64 x2_Look_State, .str x2_Look_User, .str x2_Look_Box, .int .i64 x2_Look_Valid, .sl 1 x2_Look_Uids_r]]⟩)] } : St) := by
        subst hR
        refine dwp_next (is := [0, 1, 2, 3, 4, 5, 6, 7, 8, 9, 10, 11, 12]) rfl ?_
        refine allRdy_none rfl ?_
        refine allRdy_some rfl ?_ ?_
        · skip
          refine run_aops hA 1 _ _ _ _ (by cbv) ?_
          exact ops_done (dwp_to [] (by cbv) rfl H_0_1_7_8)
        refine allRdy_none rfl ?_
        refine allRdy_none rfl ?_
        refine allRdy_none rfl ?_
        refine allRdy_none rfl ?_
        refine allRdy_none rfl ?_
        refine allRdy_none rfl ?_
        refine allRdy_none rfl ?_
        refine allRdy_none rfl ?_
        refine allRdy_none rfl ?_
        refine allRdy_none rfl ?_
        refine allRdy_none rfl ?_
        exact trivial
      have H_1_2_3 : dwp T ⟨Real Tryd.prog, RealM Tryd.prog, RealC Tryd.prog⟩ R K 10 [false, true, true, true, false, false, false, false, false, false, false, false, false] ({ sl := [.bad, .bad, .bad, .str S, .bad, .pt 5 0 0, .sl 17 xs_r, .int .i64 (A.rlen xs_r), .int .i64 n, .bool (A.cmp .lss n (A.rlen xs_r)), .rd [.int .i64 x2_Kind, .str x2_In, .str x2_Out, .bool x2_Over, .int .i64 x2_Bring_State, .str x2_Bring_From, .sl 1 x2_Bring_To_r, .sl 1 x2_Bring_Data_r, .int .i64 x2_Fetch_State, .str x2_Fetch_User, .sl 3 x2_Fetch_Mails_r, .sl 1 x2_Fetch_Gone_r, .int .i64 x2_Look_State, .str x2_Look_User, .str x2_Look_Box, .int .i64 x2_Look_Valid, .sl 1 x2_Look_Uids_r], .agg [.int .i64 x2_Kind, .str x2_In, .str x2_Out, .bool x2_Over, .int .i64 x2_Bring_State, .str x2_Bring_From, .sl 1 x2_Bring_To_r, .sl 1 x2_Bring_Data_r, .int .i64 x2_Fetch_State, .str x2_Fetch_User, .sl 3 x2_Fetch_Mails_r, .sl 1 x2_Fetch_Gone_r, .int .i64 x2_Look_State, .str x2_Look_User, .str x2_Look_Box, .int .i64 x2_Look_Valid, .sl 1 x2_Look_Uids_r], .bad, .pt 5 0 0, .int .i64 x2_Kind, .int .i64 m3, .bad, .bad, .bad, .bad, .bad, .bad, .bad, .bad, .bad, .bad], bl := [(5, ⟨.var, 17, [[.int .i64 x2_Kind, .str x2_In, .str x2_Out, .bool x2_Over, .int .i64 x2_Bring_State, .str x2_Bring_From, .sl 1 x2_Bring_To_r, .sl 1 x2_Bring_Data_r, .int .i64 x2_Fetch_State, .str x2_Fetch_User, .sl 3 x2_Fetch_Mails_r, .sl 1 x2_Fetch_Gone_r, .int .i64 x2_Look_State, .str x2_Look_User, .str x2_Look_Box, .int .i64 x2_Look_Valid, .sl 1 x2_Look_Uids_r]]⟩)] } : St) := by
        subst hR
        refine dwp_next (is := [0, 1, 2, 3, 4, 5, 6, 7, 8, 9, 10, 11, 12]) rfl ?_
        refine allRdy_some rfl ?_ ?_
        · skip
          refine run_aops hA 1 _ _ _ _ (by cbv) ?_
          exact ops_done (dwp_to [] (by cbv) rfl H_0_1_2_3)
        refine allRdy_none rfl ?_
        refine allRdy_none rfl ?_
        refine allRdy_none rfl ?_
        refine allRdy_some rfl ?_ ?_
        · skip
          refine ops_callV rfl rfl (by cbv) (by cbv) hc5 (.inr rfl) (by cbv) ?_
          exact ops_done (dwp_to [] (by cbv) rfl H_1_2_3_4)
        refine allRdy_none rfl ?_
        refine allRdy_none rfl ?_
        refine allRdy_some rfl ?_ ?_
        · skip
          refine run_aops hA 1 _ _ _ _ (by cbv) ?_
          exact ops_done (dwp_to [] (by cbv) rfl H_1_2_3_7)
        refine allRdy_none rfl ?_
        refine allRdy_none rfl ?_
        refine allRdy_none rfl ?_
        refine allRdy_none rfl ?_
        refine allRdy_none rfl ?_
        exact trivial
      have H_1_2_7 : dwp T ⟨Real Tryd.prog, RealM Tryd.prog, RealC Tryd.prog⟩ R K 10 [false, true, true, false, false, false, false, true, false, false, false, false, false] ({ sl := [.bad, .bad, .bad, .str S, .bad, .pt 5 0 0, .sl 17 xs_r, .int .i64 (A.rlen xs_r), .int .i64 n, .bool (A.cmp .lss n (A.rlen xs_r)), .rd [.int .i64 x2_Kind, .str x2_In, .str x2_Out, .bool x2_Over, .int .i64 x2_Bring_State, .str x2_Bring_From, .sl 1 x2_Bring_To_r, .sl 1 x2_Bring_Data_r, .int .i64 x2_Fetch_State, .str x2_Fetch_User, .sl 3 x2_Fetch_Mails_r, .sl 1 x2_Fetch_Gone_r, .int .i64 x2_Look_State, .str x2_Look_User, .str x2_Look_Box, .int .i64 x2_Look_Valid, .sl 1 x2_Look_Uids_r], .agg [.int .i64 x2_Kind, .str x2_In, .str x2_Out, .bool x2_Over, .int .i64 x2_Bring_State, .str x2_Bring_From, .sl 1 x2_Bring_To_r, .sl 1 x2_Bring_Data_r, .int .i64 x2_Fetch_State, .str x2_Fetch_User, .sl 3 x2_Fetch_Mails_r, .sl 1 x2_Fetch_Gone_r, .int .i64 x2_Look_State, .str x2_Look_User, .str x2_Look_Box, .int .i64 x2_Look_Valid, .sl 1 x2_Look_Uids_r], .bad, .pt 5 0 0, .int .i64 x2_Kind, .bad, .bad, .bad, .bad, .pt 5 0 2, .bad, .bad, .bad, .bad, .bad, .bad], bl := [(5, ⟨.var, 17, [[.int .i64 x2_Kind, .str x2_In, .str x2_Out, .bool x2_Over, .int .i64 x2_Bring_State, .str x2_Bring_From, .sl 1 x2_Bring_To_r, .sl 1 x2_Bring_Data_r, .int .i64 x2_Fetch_State, .str x2_Fetch_User, .sl 3 x2_Fetch_Mails_r, .sl 1 x2_Fetch_Gone_r, .int .i64 x2_Look_State, .str x2_Look_User, .str x2_Look_Box, .int .i64 x2_Look_Valid, .sl 1 x2_Look_Uids_r]]⟩)] } : St) := by
        subst hR
        refine dwp_next (is := [0, 1, 2, 3, 4, 5, 6, 7, 8, 9, 10, 11, 12]) rfl ?_
        refine allRdy_some rfl ?_ ?_
        · skip
          refine run_aops hA 1 _ _ _ _ (by cbv) ?_
          exact ops_done (dwp_to [] (by cbv) rfl H_0_1_2_7)
        refine allRdy_none rfl ?_
        refine allRdy_none rfl ?_
        refine allRdy_some rfl ?_ ?_
        · skip
          refine ops_ext rfl (ext_max rfl rfl rfl hm3) ?_
          exact ops_done (dwp_to [] (by cbv) rfl H_1_2_3_7)
        refine allRdy_none rfl ?_
        refine allRdy_none rfl ?_
        refine allRdy_none rfl ?_
        refine allRdy_none rfl ?_
        refine allRdy_some rfl ?_ ?_
        · skip
          refine run_aops hA 1 _ _ _ _ (by cbv) ?_
          exact ops_done (dwp_to [] (by cbv) rfl H_1_2_7_8)
        refine allRdy_none rfl ?_
        refine allRdy_none rfl ?_
        refine allRdy_none rfl ?_
        refine allRdy_none rfl ?_
        exact trivial
      have H_1_7_8 : dwp T ⟨Real Tryd.prog, RealM Tryd.prog, RealC Tryd.prog⟩ R K 10 [false, true, false, false, false, false, false, true, true, false, false, false, false] ({ sl := [.bad, .bad, .bad, .str S, .bad, .pt 5 0 0, .sl 17 xs_r, .int .i64 (A.rlen xs_r), .int .i64 n, .bool (A.cmp .lss n (A.rlen xs_r)), .rd [.int .i64 x2_Kind, .str x2_In, .str x2_Out, .bool x2_Over, .int .i64 x2_Bring_State, .str x2_Bring_From, .sl 1 x2_Bring_To_r, .sl 1 x2_Bring_Data_r, .int .i64 x2_Fetch_State, .str x2_Fetch_User, .sl 3 x2_Fetch_Mails_r, .sl 1 x2_Fetch_Gone_r, .int .i64 x2_Look_State, .str x2_Look_User, .str x2_Look_Box, .int .i64 x2_Look_Valid, .sl 1 x2_Look_Uids_r], .agg [.int .i64 x2_Kind, .str x2_In, .str x2_Out, .bool x2_Over, .int .i64 x2_Bring_State, .str x2_Bring_From, .sl 1 x2_Bring_To_r, .sl 1 x2_Bring_Data_r, .int .i64 x2_Fetch_State, .str x2_Fetch_User, .sl 3 x2_Fetch_Mails_r, .sl 1 x2_Fetch_Gone_r, .int .i64 x2_Look_State, .str x2_Look_User, .str x2_Look_Box, .int .i64 x2_Look_Valid, .sl 1 x2_Look_Uids_r], .bad, .pt 5 0 0, .bad, .bad, .bad, .bad, .bad, .pt 5 0 2, .str x2_Out, .bad, .bad, .bad, .bad, .bad], bl := [(5, ⟨.var, 17, [[.int .i64 x2_Kind, .str x2_In, .str x2_Out, .bool x2_Over, .int .i64 x2_Bring_State, .str x2_Bring_From, .sl 1 x2_Bring_To_r, .sl 1 x2_Bring_Data_r, .int .i64 x2_Fetch_State, .str x2_Fetch_User, .sl 3 x2_Fetch_Mails_r, .sl 1 x2_Fetch_Gone_r, .int .i64 x2_Look_State, .str x2_Look_User, .str x2_Look_Box, .int .i64 x2_Look_Valid, .sl 1 x2_Look_Uids_r]]⟩)] } : St) := by
        subst hR
        refine dwp_next (is := [0, 1, 2, 3, 4, 5, 6, 7, 8, 9, 10, 11, 12]) rfl ?_
        refine allRdy_some rfl ?_ ?_
        · skip
          refine run_aops hA 1 _ _ _ _ (by cbv) ?_
          exact ops_done (dwp_to [] (by cbv) rfl H_0_1_7_8)
        refine allRdy_none rfl ?_
        refine allRdy_some rfl ?_ ?_
        · skip
          refine run_aops hA 1 _ _ _ _ (by cbv) ?_
          exact ops_done (dwp_to [] (by cbv) rfl H_1_2_7_8)
        refine allRdy_none rfl ?_
        refine allRdy_none rfl ?_
        refine allRdy_none rfl ?_
        refine allRdy_none rfl ?_
        refine allRdy_none rfl ?_
        refine allRdy_none rfl ?_
        refine allRdy_none rfl ?_
        refine allRdy_none rfl ?_
        refine allRdy_none rfl ?_
        refine allRdy_none rfl ?_
        exact trivial
      have H_0_1 : dwp T ⟨Real Tryd.prog, RealM Tryd.prog, RealC Tryd.prog⟩ R K 11 [true, true, false, false, false, false, false, false, false, false, false, false, false] ({ sl := [.bad, .bad, .bad, .str S, .bad, .pt 5 0 0, .sl 17 xs_r, .int .i64 (A.rlen xs_r), .int .i64 n, .bool (A.cmp .lss n (A.rlen xs_r)), .rd [.int .i64 x2_Kind, .str x2_In, .str x2_Out, .bool x2_Over, .int .i64 x2_Bring_State, .str x2_Bring_From, .sl 1 x2_Bring_To_r, .sl 1 x2_Bring_Data_r, .int .i64 x2_Fetch_State, .str x2_Fetch_User, .sl 3 x2_Fetch_Mails_r, .sl 1 x2_Fetch_Gone_r, .int .i64 x2_Look_State, .str x2_Look_User, .str x2_Look_Box, .int .i64 x2_Look_Valid, .sl 1 x2_Look_Uids_r], .agg [.int .i64 x2_Kind, .str x2_In, .str x2_Out, .bool x2_Over, .int .i64 x2_Bring_State, .str x2_Bring_From, .sl 1 x2_Bring_To_r, .sl 1 x2_Bring_Data_r, .int .i64 x2_Fetch_State, .str x2_Fetch_User, .sl 3 x2_Fetch_Mails_r, .sl 1 x2_Fetch_Gone_r, .int .i64 x2_Look_State, .str x2_Look_User, .str x2_Look_Box, .int .i64 x2_Look_Valid, .sl 1 x2_Look_Uids_r], .str S, .pt 5 0 0, .bad, .bad, .bad, .bad, .bad, .bad, .bad, .bad, .bad, .bad, .bad, .bad], bl := [(5, ⟨.var, 17, [[.int .i64 x2_Kind, .str x2_In, .str x2_Out, .bool x2_Over, .int .i64 x2_Bring_State, .str x2_Bring_From, .sl 1 x2_Bring_To_r, .sl 1 x2_Bring_Data_r, .int .i64 x2_Fetch_State, .str x2_Fetch_User, .sl 3 x2_Fetch_Mails_r, .sl 1 x2_Fetch_Gone_r, .int .i64 x2_Look_State, .str x2_Look_User, .str x2_Look_Box, .int .i64 x2_Look_Valid, .sl 1 x2_Look_Uids_r]]⟩)] } : St) := by
        subst hR
        refine dwp_next (is := [0, 1, 2, 3, 4, 5, 6, 7, 8, 9, 10, 11, 12]) rfl ?_
        refine allRdy_none rfl ?_
        refine allRdy_none rfl ?_
        refine allRdy_some rfl ?_ ?_
        · skip
          refine run_aops hA 1 _ _ _ _ (by cbv) ?_
          exact ops_done (dwp_to [] (by cbv) rfl H_0_1_2)
        refine allRdy_none rfl ?_
        refine allRdy_none rfl ?_
        refine allRdy_none rfl ?_
        refine allRdy_none rfl ?_
        refine allRdy_some rfl ?_ ?_
        · skip
          refine run_aops hA 1 _ _ _ _ (by cbv) ?_
          exact ops_done (dwp_to [] (by cbv) rfl H_0_1_7)
        refine allRdy_none rfl ?_
        refine allRdy_none rfl ?_
        refine allRdy_none rfl ?_
        refine allRdy_none rfl ?_
        refine allRdy_none rfl ?_
        exact trivial
      have H_0_7 : dwp T ⟨Real Tryd.prog, RealM Tryd.prog, RealC Tryd.prog⟩ R K 11 [true, false, false, false, false, false, false, true, false, false, false, false, false] ({ sl := [.bad, .bad, .bad, .str S, .bad, .pt 5 0 0, .sl 17 xs_r, .int .i64 (A.rlen xs_r), .int .i64 n, .bool (A.cmp .lss n (A.rlen xs_r)), .rd [.int .i64 x2_Kind, .str x2_In, .str x2_Out, .bool x2_Over, .int .i64 x2_Bring_State, .str x2_Bring_From, .sl 1 x2_Bring_To_r, .sl 1 x2_Bring_Data_r, .int .i64 x2_Fetch_State, .str x2_Fetch_User, .sl 3 x2_Fetch_Mails_r, .sl 1 x2_Fetch_Gone_r, .int .i64 x2_Look_State, .str x2_Look_User, .str x2_Look_Box, .int .i64 x2_Look_Valid, .sl 1 x2_Look_Uids_r], .agg [.int .i64 x2_Kind, .str x2_In, .str x2_Out, .bool x2_Over, .int .i64 x2_Bring_State, .str x2_Bring_From, .sl 1 x2_Bring_To_r, .sl 1 x2_Bring_Data_r, .int .i64 x2_Fetch_State, .str x2_Fetch_User, .sl 3 x2_Fetch_Mails_r, .sl 1 x2_Fetch_Gone_r, .int .i64 x2_Look_State, .str x2_Look_User, .str x2_Look_Box, .int .i64 x2_Look_Valid, .sl 1 x2_Look_Uids_r], .str S, .bad, .bad, .bad, .bad, .bad, .bad, .pt 5 0 2, .bad, .bad, .bad, .bad, .bad, .bad], bl := [(5, ⟨.var, 17, [[.int .i64 x2_Kind, .str x2_In, .str x2_Out, .bool x2_Over, .int .i64 x2_Bring_State, .str x2_Bring_From, .sl 1 x2_Bring_To_r, .sl 1 x2_Bring_Data_r, .int .i64 x2_Fetch_State, .str x2_Fetch_User, .sl 3 x2_Fetch_Mails_r, .sl 1 x2_Fetch_Gone_r, .int .i64 x2_Look_State, .str x2_Look_User, .str x2_Look_Box, .int .i64 x2_Look_Valid, .sl 1 x2_Look_Uids_r]]⟩)] } : St) := by
        subst hR
        refine dwp_next (is := [0, 1, 2, 3, 4, 5, 6, 7, 8, 9, 10, 11, 12]) rfl ?_
        refine allRdy_none rfl ?_
        refine allRdy_some rfl ?_ ?_
        · skip
          refine run_aops hA 1 _ _ _ _ (by cbv) ?_
          exact ops_done (dwp_to [] (by cbv) rfl H_0_1_7)
        refine allRdy_none rfl ?_
        refine allRdy_none rfl ?_
        refine allRdy_none rfl ?_
        refine allRdy_none rfl ?_
        refine allRdy_none rfl ?_
        refine allRdy_none rfl ?_
        refine allRdy_some rfl ?_ ?_
        · skip
          refine run_aops hA 1 _ _ _ _ (by cbv) ?_
          exact ops_done (dwp_to [] (by cbv) rfl H_0_7_8)
        refine allRdy_none rfl ?_
        refine allRdy_none rfl ?_
        refine allRdy_none rfl ?_
        refine allRdy_none rfl ?_
        exact trivial
      have H_1_2 : dwp T ⟨Real Tryd.prog, RealM Tryd.prog, RealC Tryd.prog⟩ R K 11 [false, true, true, false, false, false, false, false, false, false, false, false, false] ({ sl := [.bad, .bad, .bad, .str S, .bad, .pt 5 0 0, .sl 17 xs_r, .int .i64 (A.rlen xs_r), .int .i64 n, .bool (A.cmp .lss n (A.rlen xs_r)), .rd [.int .i64 x2_Kind, .str x2_In, .str x2_Out, .bool x2_Over, .int .i64 x2_Bring_State, .str x2_Bring_From, .sl 1 x2_Bring_To_r, .sl 1 x2_Bring_Data_r, .int .i64 x2_Fetch_State, .str x2_Fetch_User, .sl 3 x2_Fetch_Mails_r, .sl 1 x2_Fetch_Gone_r, .int .i64 x2_Look_State, .str x2_Look_User, .str x2_Look_Box, .int .i64 x2_Look_Valid, .sl 1 x2_Look_Uids_r], .agg [.int .i64 x2_Kind, .str x2_In, .str x2_Out, .bool x2_Over, .int .i64 x2_Bring_State, .str x2_Bring_From, .sl 1 x2_Bring_To_r, .sl 1 x2_Bring_Data_r, .int .i64 x2_Fetch_State, .str x2_Fetch_User, .sl 3 x2_Fetch_Mails_r, .sl 1 x2_Fetch_Gone_r, .int .i64 x2_Look_State, .str x2_Look_User, .str x2_Look_Box, .int .i64 x2_Look_Valid, .sl 1 x2_Look_Uids_r], .bad, .pt 5 0 0, .int .i64 x2_Kind, .bad, .bad, .bad, .bad, .bad, .bad, .bad, .bad, .bad, .bad, .bad], bl := [(5, ⟨.var, 17, [[.int .i64 x2_Kind, .str x2_In, .str x2_Out, .bool x2_Over, .int .i64 x2_Bring_State, .str x2_Bring_From, .sl 1 x2_Bring_To_r, .sl 1 x2_Bring_Data_r, .int .i64 x2_Fetch_State, .str x2_Fetch_User, .sl 3 x2_Fetch_Mails_r, .sl 1 x2_Fetch_Gone_r, .int .i64 x2_Look_State, .str x2_Look_User, .str x2_Look_Box, .int .i64 x2_Look_Valid, .sl 1 x2_Look_Uids_r]]⟩)] } : St) := by
        subst hR
        refine dwp_next (is := [0, 1, 2, 3, 4, 5, 6, 7, 8, 9, 10, 11, 12]) rfl ?_
        refine allRdy_some rfl ?_ ?_
        · skip
          refine run_aops hA 1 _ _ _ _ (by cbv) ?_
          exact ops_done (dwp_to [] (by cbv) rfl H_0_1_2)
        refine allRdy_none rfl ?_
        refine allRdy_none rfl ?_
        refine allRdy_some rfl ?_ ?_
        · skip
          refine ops_ext rfl (ext_max rfl rfl rfl hm3) ?_
          exact ops_done (dwp_to [] (by cbv) rfl H_1_2_3)
        refine allRdy_none rfl ?_
        refine allRdy_none rfl ?_
        refine allRdy_none rfl ?_
        refine allRdy_some rfl ?_ ?_
        · skip
          refine run_aops hA 1 _ _ _ _ (by cbv) ?_
          exact ops_done (dwp_to [] (by cbv) rfl H_1_2_7)
        refine allRdy_none rfl ?_
        refine allRdy_none rfl ?_
        refine allRdy_none rfl ?_
        refine allRdy_none rfl ?_
        refine allRdy_none rfl ?_
        exact trivial
      have H_1_7 : dwp T ⟨Real Tryd.prog, RealM Tryd.prog, RealC Tryd.prog⟩ R K 11 [false, true, false, false, false, false, false, true, false, false, false, false, false] ({ sl := [.bad, .bad, .bad, .str S, .bad, .pt 5 0 0, .sl 17 xs_r, .int .i64 (A.rlen xs_r), .int .i64 n, .bool (A.cmp .lss n (A.rlen xs_r)), .rd [.int .i64 x2_Kind, .str x2_In, .str x2_Out, .bool x2_Over, .int .i64 x2_Bring_State, .str x2_Bring_From, .sl 1 x2_Bring_To_r, .sl 1 x2_Bring_Data_r, .int .i64 x2_Fetch_State, .str x2_Fetch_User, .sl 3 x2_Fetch_Mails_r, .sl 1 x2_Fetch_Gone_r, .int .i64 x2_Look_State, .str x2_Look_User, .str x2_Look_Box, .int .i64 x2_Look_Valid, .sl 1 x2_Look_Uids_r], .agg [.int .i64 x2_Kind, .str x2_In, .str x2_Out, .bool x2_Over, .int .i64 x2_Bring_State, .str x2_Bring_From, .sl 1 x2_Bring_To_r, .sl 1 x2_Bring_Data_r, .int .i64 x2_Fetch_State, .str x2_Fetch_User, .sl 3 x2_Fetch_Mails_r, .sl 1 x2_Fetch_Gone_r, .int .i64 x2_Look_State, .str x2_Look_User, .str x2_Look_Box, .int .i64 x2_Look_Valid, .sl 1 x2_Look_Uids_r], .bad, .pt 5 0 0, .bad, .bad, .bad, .bad, .bad, .pt 5 0 2, .bad, .bad, .bad, .bad, .bad, .bad], bl := [(5, ⟨.var, 17, [[.int .i64 x2_Kind, .str x2_In, .str x2_Out, .bool x2_Over, .int .i64 x2_Bring_State, .str x2_Bring_From, .sl 1 x2_Bring_To_r, .sl 1 x2_Bring_Data_r, .int .i64 x2_Fetch_State, .str x2_Fetch_User, .sl 3 x2_Fetch_Mails_r, .sl 1 x2_Fetch_Gone_r, .int .i64 x2_Look_State, .str x2_Look_User, .str x2_Look_Box, .int .i64 x2_Look_Valid, .sl 1 x2_Look_Uids_r]]⟩)] } : St) := by
        subst hR
        refine dwp_next (is := [0, 1, 2, 3, 4, 5, 6, 7, 8, 9, 10, 11, 12]) rfl ?_
        refine allRdy_some rfl ?_ ?_
        · skip
          refine run_aops hA 1 _ _ _ _ (by cbv) ?_
          exact ops_done (dwp_to [] (by cbv) rfl H_0_1_7)
        refine allRdy_none rfl ?_
        refine allRdy_some rfl ?_ ?_
        · skip
          refine run_aops hA 1 _ _ _ _ (by cbv) ?_
          exact ops_done (dwp_to [] (by cbv) rfl H_1_2_7)
        refine allRdy_none rfl ?_
        refine allRdy_none rfl ?_
        refine allRdy_none rfl ?_
        refine allRdy_none rfl ?_
        refine allRdy_none rfl ?_
        refine allRdy_some rfl ?_ ?_
        · skip
          refine run_aops hA 1 _ _ _ _ (by cbv) ?_
          exact ops_done (dwp_to [] (by cbv) rfl H_1_7_8)
        refine allRdy_none rfl ?_
        refine allRdy_none rfl ?_
        refine allRdy_none rfl ?_
        refine allRdy_none rfl ?_
        exact trivial
      have H_7_8 : dwp T ⟨Real Tryd.prog, RealM Tryd.prog, RealC Tryd.prog⟩ R K 11 [false, false, false, false, false, false, false, true, true, false, false, false, false] ({ sl := [.bad, .bad, .bad, .str S, .bad, .pt 5 0 0, .sl 17 xs_r, .int .i64 (A.rlen xs_r), .int .i64 n, .bool (A.cmp .lss n (A.rlen xs_r)), .rd [.int .i64 x2_Kind, .str x2_In, .str x2_Out, .bool x2_Over, .int .i64 x2_Bring_State, .str x2_Bring_From, .sl 1 x2_Bring_To_r, .sl 1 x2_Bring_Data_r, .int .i64 x2_Fetch_State, .str x2_Fetch_User, .sl 3 x2_Fetch_Mails_r, .sl 1 x2_Fetch_Gone_r, .int .i64 x2_Look_State, .str x2_Look_User, .str x2_Look_Box, .int .i64 x2_Look_Valid, .sl 1 x2_Look_Uids_r], .agg [.int .i64 x2_Kind, .str x2_In, .str x2_Out, .bool x2_Over, .int .i64 x2_Bring_State, .str x2_Bring_From, .sl 1 x2_Bring_To_r, .sl 1 x2_Bring_Data_r, .int .i64 x2_Fetch_State, .str x2_Fetch_User, .sl 3 x2_Fetch_Mails_r, .sl 1 x2_Fetch_Gone_r, .int .i64 x2_Look_State, .str x2_Look_User, .str x2_Look_Box, .int .i64 x2_Look_Valid, .sl 1 x2_Look_Uids_r], .bad, .bad, .bad, .bad, .bad, .bad, .bad, .pt 5 0 2, .str x2_Out, .bad, .bad, .bad, .bad, .bad], bl := [(5, ⟨.var, 17, [[.int .i64 x2_Kind, .str x2_In, .str x2_Out, .bool x2_Over, .int .i64 x2_Bring_State, .str x2_Bring_From, .sl 1 x2_Bring_To_r, .sl 1 x2_Bring_Data_r, .int .i64 x2_Fetch_State, .str x2_Fetch_User, .sl 3 x2_Fetch_Mails_r, .sl 1 x2_Fetch_Gone_r, .int .i64 x2_Look_State, .str x2_Look_User, .str x2_Look_Box, .int .i64 x2_Look_Valid, .sl 1 x2_Look_Uids_r]]⟩)] } : St) := by
        subst hR
        refine dwp_next (is := [0, 1, 2, 3, 4, 5, 6, 7, 8, 9, 10, 11, 12]) rfl ?_
        refine allRdy_some rfl ?_ ?_
        · skip
          refine run_aops hA 1 _ _ _ _ (by cbv) ?_
          exact ops_done (dwp_to [] (by cbv) rfl H_0_7_8)
        refine allRdy_some rfl ?_ ?_
        · skip
          refine run_aops hA 1 _ _ _ _ (by cbv) ?_
          exact ops_done (dwp_to [] (by cbv) rfl H_1_7_8)
        refine allRdy_none rfl ?_
        refine allRdy_none rfl ?_
        refine allRdy_none rfl ?_
        refine allRdy_none rfl ?_
        refine allRdy_none rfl ?_
        refine allRdy_none rfl ?_
        refine allRdy_none rfl ?_
        refine allRdy_none rfl ?_
        refine allRdy_none rfl ?_
        refine allRdy_none rfl ?_
        refine allRdy_none rfl ?_
        exact trivial
      have H_0 : dwp T ⟨Real Tryd.prog, RealM Tryd.prog, RealC Tryd.prog⟩ R K 12 [true, false, false, false, false, false, false, false, false, false, false, false, false] ({ sl := [.bad, .bad, .bad, .str S, .bad, .pt 5 0 0, .sl 17 xs_r, .int .i64 (A.rlen xs_r), .int .i64 n, .bool (A.cmp .lss n (A.rlen xs_r)), .rd [.int .i64 x2_Kind, .str x2_In, .str x2_Out, .bool x2_Over, .int .i64 x2_Bring_State, .str x2_Bring_From, .sl 1 x2_Bring_To_r, .sl 1 x2_Bring_Data_r, .int .i64 x2_Fetch_State, .str x2_Fetch_User, .sl 3 x2_Fetch_Mails_r, .sl 1 x2_Fetch_Gone_r, .int .i64 x2_Look_State, .str x2_Look_User, .str x2_Look_Box, .int .i64 x2_Look_Valid, .sl 1 x2_Look_Uids_r], .agg [.int .i64 x2_Kind, .str x2_In, .str x2_Out, .bool x2_Over, .int .i64 x2_Bring_State, .str x2_Bring_From, .sl 1 x2_Bring_To_r, .sl 1 x2_Bring_Data_r, .int .i64 x2_Fetch_State, .str x2_Fetch_User, .sl 3 x2_Fetch_Mails_r, .sl 1 x2_Fetch_Gone_r, .int .i64 x2_Look_State, .str x2_Look_User, .str x2_Look_Box, .int .i64 x2_Look_Valid, .sl 1 x2_Look_Uids_r], .str S, .bad, .bad, .bad, .bad, .bad, .bad, .bad, .bad, .bad, .bad, .bad, .bad, .bad], bl := [(5, ⟨.var, 17, [[.int .i64 x2_Kind, .str x2_In, .str x2_Out, .bool x2_Over, .int .i64 x2_Bring_State, .str x2_Bring_From, .sl 1 x2_Bring_To_r, .sl 1 x2_Bring_Data_r, .int .i64 x2_Fetch_State, .str x2_Fetch_User, .sl 3 x2_Fetch_Mails_r, .sl 1 x2_Fetch_Gone_r, .int .i64 x2_Look_State, .str x2_Look_User, .str x2_Look_Box, .int .i64 x2_Look_Valid, .sl 1 x2_Look_Uids_r]]⟩)] } : St) := by
        subst hR
        refine dwp_next (is := [0, 1, 2, 3, 4, 5, 6, 7, 8, 9, 10, 11, 12]) rfl ?_
        refine allRdy_none rfl ?_
        refine allRdy_some rfl ?_ ?_
        · skip
          refine run_aops hA 1 _ _ _ _ (by cbv) ?_
          exact ops_done (dwp_to [] (by cbv) rfl H_0_1)
        refine allRdy_none rfl ?_
        refine allRdy_none rfl ?_
        refine allRdy_none rfl ?_
        refine allRdy_none rfl ?_
        refine allRdy_none rfl ?_
        refine allRdy_some rfl ?_ ?_
        · skip
          refine run_aops hA 1 _ _ _ _ (by cbv) ?_
          exact ops_done (dwp_to [] (by cbv) rfl H_0_7)
        refine allRdy_none rfl ?_
        refine allRdy_none rfl ?_
        refine allRdy_none rfl ?_
        refine allRdy_none rfl ?_
        refine allRdy_none rfl ?_
        exact trivial
      have H_1 : dwp T ⟨Real Tryd.prog, RealM Tryd.prog, RealC Tryd.prog⟩ R K 12 [false, true, false, false, false, false, false, false, false, false, false, false, false] ({ sl := [.bad, .bad, .bad, .str S, .bad, .pt 5 0 0, .sl 17 xs_r, .int .i64 (A.rlen xs_r), .int .i64 n, .bool (A.cmp .lss n (A.rlen xs_r)), .rd [.int .i64 x2_Kind, .str x2_In, .str x2_Out, .bool x2_Over, .int .i64 x2_Bring_State, .str x2_Bring_From, .sl 1 x2_Bring_To_r, .sl 1 x2_Bring_Data_r, .int .i64 x2_Fetch_State, .str x2_Fetch_User, .sl 3 x2_Fetch_Mails_r, .sl 1 x2_Fetch_Gone_r, .int .i64 x2_Look_State, .str x2_Look_User, .str x2_Look_Box, .int .i64 x2_Look_Valid, .sl 1 x2_Look_Uids_r], .agg [.int .i64 x2_Kind, .str x2_In, .str x2_Out, .bool x2_Over, .int .i64 x2_Bring_State, .str x2_Bring_From, .sl 1 x2_Bring_To_r, .sl 1 x2_Bring_Data_r, .int .i64 x2_Fetch_State, .str x2_Fetch_User, .sl 3 x2_Fetch_Mails_r, .sl 1 x2_Fetch_Gone_r, .int .i64 x2_Look_State, .str x2_Look_User, .str x2_Look_Box, .int .i64 x2_Look_Valid, .sl 1 x2_Look_Uids_r], .bad, .pt 5 0 0, .bad, .bad, .bad, .bad, .bad, .bad, .bad, .bad, .bad, .bad, .bad, .bad], bl := [(5, ⟨.var, 17, [[.int .i64 x2_Kind, .str x2_In, .str x2_Out, .bool x2_Over, .int .i64 x2_Bring_State, .str x2_Bring_From, .sl 1 x2_Bring_To_r, .sl 1 x2_Bring_Data_r, .int .i64 x2_Fetch_State, .str x2_Fetch_User, .sl 3 x2_Fetch_Mails_r, .sl 1 x2_Fetch_Gone_r, .int .i64 x2_Look_State, .str x2_Look_User, .str x2_Look_Box, .int .i64 x2_Look_Valid, .sl 1 x2_Look_Uids_r]]⟩)] } : St) := by
        subst hR
        refine dwp_next (is := [0, 1, 2, 3, 4, 5, 6, 7, 8, 9, 10, 11, 12]) rfl ?_
        refine allRdy_some rfl ?_ ?_
        · skip
          refine run_aops hA 1 _ _ _ _ (by cbv) ?_
          exact ops_done (dwp_to [] (by cbv) rfl H_0_1)
        refine allRdy_none rfl ?_
        refine allRdy_some rfl ?_ ?_
        · skip
          refine run_aops hA 1 _ _ _ _ (by cbv) ?_
          exact ops_done (dwp_to [] (by cbv) rfl H_1_2)
        refine allRdy_none rfl ?_
        refine allRdy_none rfl ?_
        refine allRdy_none rfl ?_
        refine allRdy_none rfl ?_
        refine allRdy_some rfl ?_ ?_
        · skip
          refine run_aops hA 1 _ _ _ _ (by cbv) ?_
          exact ops_done (dwp_to [] (by cbv) rfl H_1_7)
        refine allRdy_none rfl ?_
        refine allRdy_none rfl ?_
        refine allRdy_none rfl ?_
        refine allRdy_none rfl ?_
        refine allRdy_none rfl ?_
        exact trivial
      have H_7 : dwp T ⟨Real Tryd.prog, RealM Tryd.prog, RealC Tryd.prog⟩ R K 12 [false, false, false, false, false, false, false, true, false, false, false, false, false] ({ sl := [.bad, .bad, .bad, .str S, .bad, .pt 5 0 0, .sl 17 xs_r, .int .i64 (A.rlen xs_r), .int .i64 n, .bool (A.cmp .lss n (A.rlen xs_r)), .rd [.int .i64 x2_Kind, .str x2_In, .str x2_Out, .bool x2_Over, .int .i64 x2_Bring_State, .str x2_Bring_From, .sl 1 x2_Bring_To_r, .sl 1 x2_Bring_Data_r, .int .i64 x2_Fetch_State, .str x2_Fetch_User, .sl 3 x2_Fetch_Mails_r, .sl 1 x2_Fetch_Gone_r, .int .i64 x2_Look_State, .str x2_Look_User, .str x2_Look_Box, .int .i64 x2_Look_Valid, .sl 1 x2_Look_Uids_r], .agg [.int .i64 x2_Kind, .str x2_In, .str x2_Out, .bool x2_Over, .int .i64 x2_Bring_State, .str x2_Bring_From, .sl 1 x2_Bring_To_r, .sl 1 x2_Bring_Data_r, .int .i64 x2_Fetch_State, .str x2_Fetch_User, .sl 3 x2_Fetch_Mails_r, .sl 1 x2_Fetch_Gone_r, .int .i64 x2_Look_State, .str x2_Look_User, .str x2_Look_Box, .int .i64 x2_Look_Valid, .sl 1 x2_Look_Uids_r], .bad, .bad, .bad, .bad, .bad, .bad, .bad, .pt 5 0 2, .bad, .bad, .bad, .bad, .bad, .bad], bl := [(5, ⟨.var, 17, [[.int .i64 x2_Kind, .str x2_In, .str x2_Out, .bool x2_Over, .int .i64 x2_Bring_State, .str x2_Bring_From, .sl 1 x2_Bring_To_r, .sl 1 x2_Bring_Data_r, .int .i64 x2_Fetch_State, .str x2_Fetch_User, .sl 3 x2_Fetch_Mails_r, .sl 1 x2_Fetch_Gone_r, .int .i64 x2_Look_State, .str x2_Look_User, .str x2_Look_Box, .int .i64 x2_Look_Valid, .sl 1 x2_Look_Uids_r]]⟩)] } : St) := by
        subst hR
        refine dwp_next (is := [0, 1, 2, 3, 4, 5, 6, 7, 8, 9, 10, 11, 12]) rfl ?_
        refine allRdy_some rfl ?_ ?_
        · skip
          refine run_aops hA 1 _ _ _ _ (by cbv) ?_
          exact ops_done (dwp_to [] (by cbv) rfl H_0_7)
        refine allRdy_some rfl ?_ ?_
        · skip
          refine run_aops hA 1 _ _ _ _ (by cbv) ?_
          exact ops_done (dwp_to [] (by cbv) rfl H_1_7)
        refine allRdy_none rfl ?_
        refine allRdy_none rfl ?_
        refine allRdy_none rfl ?_
        refine allRdy_none rfl ?_
        refine allRdy_none rfl ?_
        refine allRdy_none rfl ?_
        refine allRdy_some rfl ?_ ?_
        · skip
          refine run_aops hA 1 _ _ _ _ (by cbv) ?_
          exact ops_done (dwp_to [] (by cbv) rfl H_7_8)
        refine allRdy_none rfl ?_
        refine allRdy_none rfl ?_
        refine allRdy_none rfl ?_
        refine allRdy_none rfl ?_
        exact trivial
      have H_ : dwp T ⟨Real Tryd.prog, RealM Tryd.prog, RealC Tryd.prog⟩ R K 13 [false, false, false, false, false, false, false, false, false, false, false, false, false] ({ sl := [.bad, .bad, .bad, .str S, .bad, .pt 5 0 0, .sl 17 xs_r, .int .i64 (A.rlen xs_r), .int .i64 n, .bool (A.cmp .lss n (A.rlen xs_r)), .rd [.int .i64 x2_Kind, .str x2_In, .str x2_Out, .bool x2_Over, .int .i64 x2_Bring_State, .str x2_Bring_From, .sl 1 x2_Bring_To_r, .sl 1 x2_Bring_Data_r, .int .i64 x2_Fetch_State, .str x2_Fetch_User, .sl 3 x2_Fetch_Mails_r, .sl 1 x2_Fetch_Gone_r, .int .i64 x2_Look_State, .str x2_Look_User, .str x2_Look_Box, .int .i64 x2_Look_Valid, .sl 1 x2_Look_Uids_r], .agg [.int .i64 x2_Kind, .str x2_In, .str x2_Out, .bool x2_Over, .int .i64 x2_Bring_State, .str x2_Bring_From, .sl 1 x2_Bring_To_r, .sl 1 x2_Bring_Data_r, .int .i64 x2_Fetch_State, .str x2_Fetch_User, .sl 3 x2_Fetch_Mails_r, .sl 1 x2_Fetch_Gone_r, .int .i64 x2_Look_State, .str x2_Look_User, .str x2_Look_Box, .int .i64 x2_Look_Valid, .sl 1 x2_Look_Uids_r], .bad, .bad, .bad, .bad, .bad, .bad, .bad, .bad, .bad, .bad, .bad, .bad, .bad, .bad], bl := [(5, ⟨.var, 17, [[.int .i64 x2_Kind, .str x2_In, .str x2_Out, .bool x2_Over, .int .i64 x2_Bring_State, .str x2_Bring_From, .sl 1 x2_Bring_To_r, .sl 1 x2_Bring_Data_r, .int .i64 x2_Fetch_State, .str x2_Fetch_User, .sl 3 x2_Fetch_Mails_r, .sl 1 x2_Fetch_Gone_r, .int .i64 x2_Look_State, .str x2_Look_User, .str x2_Look_Box, .int .i64 x2_Look_Valid, .sl 1 x2_Look_Uids_r]]⟩)] } : St) := by
        subst hR
        refine dwp_next (is := [0, 1, 2, 3, 4, 5, 6, 7, 8, 9, 10, 11, 12]) rfl ?_
        refine allRdy_some rfl ?_ ?_
        · skip
          refine run_aops hA 1 _ _ _ _ (by cbv) ?_
          exact ops_done (dwp_to [] (by cbv) rfl H_0)
        refine allRdy_some rfl ?_ ?_
        · skip
          refine run_aops hA 1 _ _ _ _ (by cbv) ?_
          exact ops_done (dwp_to [] (by cbv) rfl H_1)
        refine allRdy_none rfl ?_
        refine allRdy_none rfl ?_
        refine allRdy_none rfl ?_
        refine allRdy_none rfl ?_
        refine allRdy_none rfl ?_
        refine allRdy_some rfl ?_ ?_
        · skip
          refine run_aops hA 1 _ _ _ _ (by cbv) ?_
          exact ops_done (dwp_to [] (by cbv) rfl H_7)
        refine allRdy_none rfl ?_
        refine allRdy_none rfl ?_
        refine allRdy_none rfl ?_
        refine allRdy_none rfl ?_
        refine allRdy_none rfl ?_
        exact trivial
      exact dwp_to [] (by cbv) rfl H_
    refine go_reg ?_
    refine run_aops hA 2 _ _ _ _ (by cbv) ?_
    refine ops_done ?_
    refine ⟨(S13_1 s11 xs_r (A.rlen xs_r) (A.num .add .i64 n 1)), List.length xs - (i + 1), ?_, by cbv, i + 1, (A.num .add .i64 n 1), s11, rfl, ?_, rfl⟩
    · skip
      omega
    · skip
      refine ⟨by rw [add_i64 hA (by omega) (by omega)]; omega, by omega, ?_⟩
      rw [talkC_at hix2, ← hS]
      simp only [hs11, hs10, hs7, hs6, hm3, hv16_4, hv21_8, repl_cr, hm3]
      rfl
  · skip
    have ec1 : (A.rlen xs_r) ≤ n := lss_f hA c1
    refine go_exit ⟨fun _ => ?_, fun h => absurd rfl h⟩
    refine go_seq ?_
    refine go_reg ?_
    refine run_aops hA 2 _ _ _ _ (by cbv) ?_
    refine ops_done ?_
    refine go_ret ⟨_, by cbv, ?_⟩
    show _ = (PV.str S)
    refine congrArg PV.str ?_
    rw [hS, List.take_of_length_le (by omega)]

def S11_1 (p0 : List (List PV)) (p1 : ByteArray) (p2 : Int) : St := { sl := [.sl 17 p0, .bad, .bad, .str p1, .int .i64 p2, .bad, .bad, .bad, .bad, .bad, .bad, .bad, .bad, .bad, .bad, .bad, .bad, .bad, .bad, .bad, .bad, .bad, .bad, .bad, .bad, .bad, .bad, .bad, .bad, .bad, .bad, .bad, .bad, .bad, .bad, .bad, .bad, .bad, .bad, .bad, .bad, .bad, .bad, .bad, .bad, .bad, .bad, .bad, .bad, .bad, .bad, .bad], bl := [] }
def S11_2 (p0 : List (List PV)) (p1 : ByteArray) (p2 : Int) (p3 : Int) : St := { sl := [.sl 17 p0, .bad, .bad, .str p1, .int .i64 p2, .int .i64 p3, .bad, .bad, .bad, .bad, .bad, .bad, .bad, .bad, .bad, .bad, .bad, .bad, .bad, .bad, .bad, .bad, .bad, .bad, .bad, .bad, .bad, .bad, .bad, .bad, .bad, .bad, .bad, .bad, .bad, .bad, .bad, .bad, .bad, .bad, .bad, .bad, .bad, .bad, .bad, .bad, .bad, .bad, .bad, .bad, .bad, .bad], bl := [] }
theorem r_spec_ShowTalk (A : Alg) (hA : A = std) (xs : List GSession) (hz : ∀ q ∈ zsSessionS xs, q ≤ 1048576) (hr : ∀ x ∈ xs, rgSession x) : Real Tryd.prog 11 [.sl 17 (List.map eSession xs)] (.str (talkC xs)) := by
  obtain ⟨xs_r, hxs_r⟩ : ∃ r, r = xs.map eSession := ⟨_, rfl⟩
  have lxs_r : A.rlen xs_r = (List.length xs : Int) := rlen_map hA hxs_r
  refine real_args (args' := [.sl 17 xs_r]) (by subst hxs_r; rfl) ?_
  have nx : List.length xs ≤ 1048576 := hz _ (by simp [zsSessionS])
  have hmm : ∀ x ∈ xs, rgSession x ∧ ByteArray.size x.Out ≤ 1048576 := fun x hx => ⟨hr x hx, hz _ (List.mem_cons_of_mem _ (List.mem_flatMap.2 ⟨_, hx, by simp [zsSession]⟩))⟩
  have e3 : (ByteArray.mk #[45, 45, 32]).size = 3 := rfl
  have e1 : (ByteArray.mk #[10]).size = 1 := rfl
  refine real tyOk Tryd.func11 (by kernel_rfl) (afun_of rfl ?_)
  refine go_seq ?_
  refine go_reg ?_
  refine run_aops hA 1 _ _ _ _ (by cbv) ?_
  refine ops_done ?_
  refine go_seq ?_
  refine go_reg ?_
  refine run_aops hA 1 _ _ _ _ (by cbv) ?_
  refine ops_done ?_
  refine go_seq ?_
  refine go_seq ?_
  refine go_reg ?_
  refine run_aops hA 1 _ _ _ _ (by cbv) ?_
  refine ops_done ?_
  refine go_block ?_
  refine go_loopE (fun σ m => ∃ (i : Nat) (n : Int) (S : ByteArray), σ = (S11_1 xs_r S n) ∧ (n = (i : Int) ∧ i ≤ List.length xs ∧ S = talkC (xs.take i)) ∧ m = List.length xs - i) _ [] [0, 3, 4] [] (S11_1 xs_r (ByteArray.mk #[]) 0) rfl (by cbv) ⟨0, 0, (ByteArray.mk #[]), rfl, ?_, rfl⟩ (fun σ m hI => ?_)
  · skip
    exact ⟨rfl, Nat.zero_le _, rfl⟩
  obtain ⟨i, n, S, rfl, ⟨hn, hi, hS⟩, rfl⟩ := hI
  have hSz : ByteArray.size S ≤ 3000000000000 := by
    have := talkC_size (xs.take i) (fun m hm => hmm m (List.mem_of_mem_take hm))
    rw [← hS, List.length_take] at this
    omega
  refine go_seq ?_
  refine go_seq ?_
  refine go_reg ?_
  refine run_aops hA 4 _ _ _ _ (by cbv) ?_
  refine ops_done ?_
  refine go_cond rfl (fun c1 => ?_) (fun c1 => ?_)
  · skip
    have ec1 : n < (A.rlen xs_r) := lss_t hA c1
    refine go_skip ?_
    refine go_seq ?_
    refine go_block ?_
    refine go_seq ?_
    refine go_reg ?_
    refine run_aops hA 1 _ _ _ _ (by cbv) ?_
    obtain ⟨s2, hs2⟩ : ∃ s : ByteArray, s = S ++ (ByteArray.mk #[45, 45, 32]) := ⟨_, rfl⟩
    have zs2 : ByteArray.size s2 = ByteArray.size S + ByteArray.size (ByteArray.mk #[45, 45, 32]) := by rw [hs2]; exact ByteArray.size_append
    have bs2 : ByteArray.size S + ByteArray.size (ByteArray.mk #[45, 45, 32]) ≤ 140737488355328 := by
      omega
    refine ops_step rfl rfl (str_add rfl rfl rfl hs2 bs2) ?_
    refine run_aops hA 2 _ _ _ _ (by cbv) ?_
    have h0x3 : (0 : Int) ≤ n := by
      omega
    have hlx3 : (Int.toNat n) < List.length xs := by
      omega
    obtain ⟨x3, hx3⟩ : ∃ x, (xs)[(Int.toNat n)]? = some x := ⟨_, List.getElem?_eq_getElem hlx3⟩
    have hmx3 := List.mem_of_getElem? hx3
    obtain ⟨x3_Kind, x3_In, x3_Out, x3_Over, ⟨x3_Bring_State, x3_Bring_From, x3_Bring_To, x3_Bring_Data⟩, ⟨x3_Fetch_State, x3_Fetch_User, x3_Fetch_Mails, x3_Fetch_Gone⟩, ⟨x3_Look_State, x3_Look_User, x3_Look_Box, x3_Look_Valid, x3_Look_Uids⟩⟩ := x3
    obtain ⟨x3_Bring_To_r, hx3_Bring_To_r⟩ : ∃ r, r = x3_Bring_To.map eString := ⟨_, rfl⟩
    have lx3_Bring_To_r : A.rlen x3_Bring_To_r = (List.length x3_Bring_To : Int) := rlen_map hA hx3_Bring_To_r
    obtain ⟨x3_Bring_Data_r, hx3_Bring_Data_r⟩ : ∃ r, r = x3_Bring_Data.map eString := ⟨_, rfl⟩
    have lx3_Bring_Data_r : A.rlen x3_Bring_Data_r = (List.length x3_Bring_Data : Int) := rlen_map hA hx3_Bring_Data_r
    obtain ⟨x3_Fetch_Mails_r, hx3_Fetch_Mails_r⟩ : ∃ r, r = x3_Fetch_Mails.map eMail := ⟨_, rfl⟩
    have lx3_Fetch_Mails_r : A.rlen x3_Fetch_Mails_r = (List.length x3_Fetch_Mails : Int) := rlen_map hA hx3_Fetch_Mails_r
    obtain ⟨x3_Fetch_Gone_r, hx3_Fetch_Gone_r⟩ : ∃ r, r = x3_Fetch_Gone.map eBool := ⟨_, rfl⟩
    have lx3_Fetch_Gone_r : A.rlen x3_Fetch_Gone_r = (List.length x3_Fetch_Gone : Int) := rlen_map hA hx3_Fetch_Gone_r
    obtain ⟨x3_Look_Uids_r, hx3_Look_Uids_r⟩ : ∃ r, r = x3_Look_Uids.map eInt := ⟨_, rfl⟩
    have lx3_Look_Uids_r : A.rlen x3_Look_Uids_r = (List.length x3_Look_Uids : Int) := rlen_map hA hx3_Look_Uids_r
    have hrx3 : xs_r[(Int.toNat n)]? = some [.int .i64 x3_Kind, .str x3_In, .str x3_Out, .bool x3_Over, .int .i64 x3_Bring_State, .str x3_Bring_From, .sl 1 x3_Bring_To_r, .sl 1 x3_Bring_Data_r, .int .i64 x3_Fetch_State, .str x3_Fetch_User, .sl 3 x3_Fetch_Mails_r, .sl 1 x3_Fetch_Gone_r, .int .i64 x3_Look_State, .str x3_Look_User, .str x3_Look_Box, .int .i64 x3_Look_Valid, .sl 1 x3_Look_Uids_r] := by
      subst hx3_Bring_To_r hx3_Bring_Data_r hx3_Fetch_Mails_r hx3_Fetch_Gone_r hx3_Look_Uids_r; exact map_at eSession hxs_r hx3
    have hix3 := hx3
    rw [hn] at hix3
    have hix3 : (xs)[i]? = some (⟨x3_Kind, x3_In, x3_Out, x3_Over, ⟨x3_Bring_State, x3_Bring_From, x3_Bring_To, x3_Bring_Data⟩, ⟨x3_Fetch_State, x3_Fetch_User, x3_Fetch_Mails, x3_Fetch_Gone⟩, ⟨x3_Look_State, x3_Look_User, x3_Look_Box, x3_Look_Valid, x3_Look_Uids⟩⟩ : GSession) := hix3
    have hgx3 : i64 x3_Kind := (hmm _ hmx3).1
    have hox3 : ByteArray.size x3_Out ≤ 1048576 := (hmm _ hmx3).2
    have hfkx3 := figB_size _ hgx3
    have hnox3 := noCr_size x3_Out
    have zlx3 := slen_eq hA x3_Out
    refine ops_step rfl rfl (idx_sl rfl rfl rfl rfl rfl h0x3 rfl hrx3) ?_
    refine run_aops hA 2 _ _ _ _ (by cbv) ?_
    obtain ⟨v19_4, hv19_4, hc5⟩ : ∃ (v19_4 : ByteArray), v19_4 = (figB x3_Kind) ∧ Real Tryd.prog 16 [.int .i64 x3_Kind] (.str v19_4) := ⟨_, rfl, by exact r_spec_l20Num A hA x3_Kind (by first | assumption | (unfold i64 at *; omega))⟩
    refine ops_callV rfl rfl (by cbv) (by cbv) hc5 (.inr rfl) (by cbv) ?_
    obtain ⟨s6, hs6⟩ : ∃ s : ByteArray, s = s2 ++ v19_4 := ⟨_, rfl⟩
    have zs6 : ByteArray.size s6 = ByteArray.size s2 + ByteArray.size v19_4 := by rw [hs6]; exact ByteArray.size_append
    have bs6 : ByteArray.size s2 + ByteArray.size v19_4 ≤ 140737488355328 := by
      have jv19_4 := congrArg ByteArray.size hv19_4
      omega
    refine ops_step rfl rfl (str_add rfl rfl rfl hs6 bs6) ?_
    obtain ⟨s7, hs7⟩ : ∃ s : ByteArray, s = s6 ++ (ByteArray.mk #[10]) := ⟨_, rfl⟩
    have zs7 : ByteArray.size s7 = ByteArray.size s6 + ByteArray.size (ByteArray.mk #[10]) := by rw [hs7]; exact ByteArray.size_append
    have bs7 : ByteArray.size s6 + ByteArray.size (ByteArray.mk #[10]) ≤ 140737488355328 := by
      have jv19_4 := congrArg ByteArray.size hv19_4
      omega
    refine ops_step rfl rfl (str_add rfl rfl rfl hs7 bs7) ?_
    refine run_aops hA 1 _ _ _ _ (by cbv) ?_
    refine ops_done ?_
    refine go_seq ?_
    refine go_reg ?_
    refine run_aops hA 1 _ _ _ _ (by cbv) ?_
    refine ops_done ?_
    refine go_block ?_
    refine go_loopE (fun σ m => ∃ (q : Nat) (j : Int) (S2 : ByteArray), σ = (S11_2 xs_r S2 n j) ∧ (j = (q : Int) ∧ q ≤ ByteArray.size x3_Out ∧ S2 = s7 ++ crT x3_Out q) ∧ m = ByteArray.size x3_Out - q) _ [] [0, 3, 4, 5] [] (S11_2 xs_r s7 n 0) rfl (by cbv) ⟨0, 0, s7, rfl, ?_, rfl⟩ (fun σ m hI => ?_)
    · skip
      exact ⟨rfl, Nat.zero_le _, (cr_0 _ _).symm⟩
    obtain ⟨q, j, S2, rfl, ⟨hj, hq, hS2⟩, rfl⟩ := hI
    have hj1 : A.num .add .i64 j 1 = j + 1 := add_i64 hA (by omega) (by omega)
    have hcz := cr_size x3_Out q
    have hS2z : ByteArray.size S2 ≤ 3000000000000 + 1100000 := by
      rw [hS2, ByteArray.size_append]
      have khv19_4 := congrArg ByteArray.size hv19_4
      omega
    refine go_seq ?_
    refine go_seq ?_
    refine go_reg ?_
    refine run_aops hA 3 _ _ _ _ (by cbv) ?_
    refine ops_step rfl rfl (idx_sl rfl rfl rfl rfl rfl h0x3 rfl hrx3) ?_
    refine run_aops hA 4 _ _ _ _ (by cbv) ?_
    refine ops_done ?_
    refine go_cond rfl (fun c8 => ?_) (fun c8 => ?_)
    · skip
      have ec8 : j < (A.slen x3_Out) := lss_t hA c8
      refine go_skip ?_
      refine go_seq ?_
      refine go_block ?_
      refine go_seq ?_
      refine go_reg ?_
      refine run_aops hA 2 _ _ _ _ (by cbv) ?_
      refine ops_step rfl rfl (idx_sl rfl rfl rfl rfl rfl h0x3 rfl hrx3) ?_
      refine run_aops hA 3 _ _ _ _ (by cbv) ?_
      have zy9 : A.slen x3_Out = (ByteArray.size x3_Out : Int) := slen_eq hA x3_Out
      have h0y9 : (0 : Int) ≤ j := by omega
      have hly9 : j < (ByteArray.size x3_Out : Int) := by omega
      obtain ⟨y9, hy9⟩ : ∃ v : Int, v = byteAt x3_Out j := ⟨_, rfl⟩
      refine ops_step rfl rfl (idx_str rfl rfl rfl rfl h0y9 hly9 hy9) ?_
      refine run_aops hA 1 _ _ _ _ (by cbv) ?_
      refine ops_done ?_
      refine go_cond rfl (fun c10 => ?_) (fun c10 => ?_)
      · skip
        have ec10 : y9 ≠ 13 := neq_t hA c10
        refine go_reg ?_
        refine run_aops hA 3 _ _ _ _ (by cbv) ?_
        refine ops_step rfl rfl (idx_sl rfl rfl rfl rfl rfl h0x3 rfl hrx3) ?_
        refine run_aops hA 5 _ _ _ _ (by cbv) ?_
        obtain ⟨s11, hs11⟩ : ∃ s : ByteArray, s = ByteArray.extract x3_Out (Int.toNat j) (Int.toNat (A.num .add .i64 j 1)) := ⟨_, rfl⟩
        refine ops_ext rfl (ext_sub rfl rfl rfl rfl rfl (by first | omega | (show _ ≤ A.num .add .i64 j 1; omega) | (show A.num .add .i64 j 1 ≤ _; omega)) (by first | omega | (show _ ≤ A.num .add .i64 j 1; omega) | (show A.num .add .i64 j 1 ≤ _; omega)) (by first | omega | (show _ ≤ A.num .add .i64 j 1; omega) | (show A.num .add .i64 j 1 ≤ _; omega)) hs11) ?_
        obtain ⟨s12, hs12⟩ : ∃ s : ByteArray, s = S2 ++ s11 := ⟨_, rfl⟩
        have zs12 : ByteArray.size s12 = ByteArray.size S2 + ByteArray.size s11 := by rw [hs12]; exact ByteArray.size_append
        have bs12 : ByteArray.size S2 + ByteArray.size s11 ≤ 140737488355328 := by
          have jv19_4 := congrArg ByteArray.size hv19_4
          have js11 : ByteArray.size s11 ≤ 1048576 := by
            rw [hs11]
            have := ext_size x3_Out (Int.toNat j) (Int.toNat (A.num .add .i64 j 1))
            omega
          omega
        refine ops_step rfl rfl (str_add rfl rfl rfl hs12 bs12) ?_
        refine run_aops hA 1 _ _ _ _ (by cbv) ?_
        refine ops_done ?_
        refine go_reg ?_
        refine run_aops hA 3 _ _ _ _ (by cbv) ?_
        refine ops_done ?_
        refine ⟨(S11_2 xs_r s12 n (A.num .add .i64 j 1)), ByteArray.size x3_Out - (q + 1), ?_, by cbv, q + 1, (A.num .add .i64 j 1), s12, rfl, ?_, rfl⟩
        · skip
          omega
        · skip
          have hq1 : A.num .add .i64 j 1 = ((q + 1 : Nat) : Int) := by rw [add_i64 hA (by omega) (by omega)]; omega
          have hyq : byteAt x3_Out (q : Int) = y9 := by rw [← hj]; exact hy9.symm
          refine ⟨hq1, by omega, ?_⟩
          rw [cr_t (o := x3_Out) (q := q) (by omega) (by omega), hs12, hs11, hq1, hj, Int.toNat_natCast, Int.toNat_natCast, hS2, ByteArray.append_assoc]
      · skip
        have ec10 : y9 = 13 := neq_f hA c10
        refine go_skip ?_
        refine go_reg ?_
        refine run_aops hA 3 _ _ _ _ (by cbv) ?_
        refine ops_done ?_
        refine ⟨(S11_2 xs_r S2 n (A.num .add .i64 j 1)), ByteArray.size x3_Out - (q + 1), ?_, by cbv, q + 1, (A.num .add .i64 j 1), S2, rfl, ?_, rfl⟩
        · skip
          omega
        · skip
          have hq1 : A.num .add .i64 j 1 = ((q + 1 : Nat) : Int) := by rw [add_i64 hA (by omega) (by omega)]; omega
          have hyq : byteAt x3_Out (q : Int) = y9 := by rw [← hj]; exact hy9.symm
          refine ⟨hq1, by omega, ?_⟩
          rw [cr_f (o := x3_Out) (q := q) (by omega) (by omega)]; exact hS2
    · skip
      have ec8 : (A.slen x3_Out) ≤ j := lss_f hA c8
      refine go_exit ⟨fun _ => ?_, fun h => absurd rfl h⟩
      refine go_reg ?_
      refine run_aops hA 3 _ _ _ _ (by cbv) ?_
      refine ops_done ?_
      refine ⟨(S11_1 xs_r S2 (A.num .add .i64 n 1)), List.length xs - (i + 1), ?_, by cbv, i + 1, (A.num .add .i64 n 1), S2, rfl, ?_, rfl⟩
      · skip
        omega
      · skip
        refine ⟨by rw [add_i64 hA (by omega) (by omega)]; omega, by omega, ?_⟩
        rw [talkC_at hix3, ← hS, hS2, cr_end (o := x3_Out) (q := q) (by omega)]
        simp only [hs7, hs6, hs2, hv19_4, talkT, ddB, ByteArray.append_assoc]
  · skip
    have ec1 : (A.rlen xs_r) ≤ n := lss_f hA c1
    refine go_exit ⟨fun _ => ?_, fun h => absurd rfl h⟩
    refine go_seq ?_
    refine go_reg ?_
    refine run_aops hA 2 _ _ _ _ (by cbv) ?_
    refine ops_done ?_
    refine go_ret ⟨_, by cbv, ?_⟩
    show _ = (PV.str S)
    refine congrArg PV.str ?_
    rw [hS, List.take_of_length_le (by omega)]
end Go.Av

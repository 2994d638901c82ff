/- Walks: ShowBox. -/
import Derived.Test.YtjbokkoiicoahaaDoorG2
import Derived.Test.YtjbokkoiicoahaaDoorG3
namespace Go.Av
open Go Go.Proofs
set_option maxRecDepth 100000
set_option maxHeartbeats 4000000
set_option linter.unusedVariables false
set_option linter.unusedSimpArgs false
def nlB : ByteArray := ByteArray.mk #[10]
def headT (u n : ByteArray) (v x l : Int) : ByteArray := ((((((((u ++ spB) ++ n) ++ spB) ++ figB v) ++ spB) ++ figB x) ++ spB) ++ itoaB l) ++ nlB
def mailT (m : GMail) : ByteArray := (((((spB ++ figB m.Uid) ++ spB) ++ flagW m.Flags) ++ spB) ++ itoaB (m.Text.size : Int)) ++ nlB
def catM (h : ByteArray) (xs : List GMail) : ByteArray := xs.foldl (fun s m => s ++ mailT m) h
def boxT (b : GBox) : ByteArray := catM (headT b.User b.Name b.Valid b.Next (List.length b.Mails : Int)) b.Mails
def rgMail (m : GMail) : Prop := i64 m.Uid ∧ i64 m.Flags
def rgBox (b : GBox) : Prop := i64 b.Valid ∧ i64 b.Next ∧ ∀ m ∈ b.Mails, rgMail m
theorem catM_at {h : ByteArray} {xs : List GMail} {i : Nat} {x : GMail} (hx : xs[i]? = some x) : catM h (xs.take (i + 1)) = catM h (xs.take i) ++ mailT x := by
  rw [List.take_add_one, hx]; simp [catM, List.foldl_append]
theorem bOf_toList (a : ByteArray) : bOf a.data.toList = a := by cases a; rfl
theorem join5 (a b c d e : ByteArray) : joinB [a, b, c, d, e] spB = (((((((a ++ spB) ++ b) ++ spB) ++ c) ++ spB) ++ d) ++ spB) ++ e := by
  have h : joinB [a, b, c, d, e] spB = bOf (a.data.toList ++ [32] ++ b.data.toList ++ [32] ++ c.data.toList ++ [32] ++ d.data.toList ++ [32] ++ e.data.toList) := by
    simp [joinB, Lib.join, List.intercalate, spB, bOf]
  have hs : bOf [32] = spB := rfl
  rw [h]
  simp only [← bOf_app, bOf_toList, hs]
theorem sp1 : spB.size = 1 := rfl
theorem nl1 : nlB.size = 1 := rfl
theorem mailT_size {m : GMail} (h : rgMail m) (ht : m.Text.size ≤ 1048576) : (mailT m).size ≤ 100 := by
  have h1 := figB_size m.Uid h.1
  have h2 := flagW_size m.Flags
  have h3 := itoaB_size (m.Text.size : Int) (by unfold i64; omega)
  unfold mailT
  simp only [ByteArray.size_append, sp1, nl1]
  omega
theorem headT_size {u n : ByteArray} {v x l : Int} (hu : u.size ≤ 1048576) (hn : n.size ≤ 1048576) (hv : i64 v) (hx : i64 x) (hl : i64 l) : (headT u n v x l).size ≤ 3000000 := by
  have h1 := figB_size v hv
  have h2 := figB_size x hx
  have h3 := itoaB_size l hl
  unfold headT
  simp only [ByteArray.size_append, sp1, nl1]
  omega
theorem catM_size {h : ByteArray} : ∀ (xs : List GMail), (∀ m ∈ xs, rgMail m ∧ m.Text.size ≤ 1048576) → ∀ (h : ByteArray), (catM h xs).size ≤ h.size + 100 * xs.length
  | [], _, h => by simp [catM]
  | x :: xs, hx, h => by
    have h1 := catM_size (h := h) xs (fun m hm => hx m (List.mem_cons_of_mem _ hm)) (h ++ mailT x)
    have h2 := mailT_size (hx x List.mem_cons_self).1 (hx x List.mem_cons_self).2
    rw [ByteArray.size_append] at h1
    show (catM (h ++ mailT x) xs).size ≤ _
    rw [List.length_cons]
    omega

def S8_1 (p0 : ByteArray) (p1 : List (List PV)) (p2 : Int) (p3 : Int) : St := { sl := [.bad, .bad, .bad, .str p0, .bad, .bad, .bad, .bad, .bad, .bad, .bad, .bad, .bad, .bad, .bad, .bad, .bad, .bad, .bad, .bad, .bad, .bad, .bad, .bad, .sl 3 p1, .int .i64 p2, .int .i64 p3, .bad, .bad, .bad, .bad, .bad, .bad, .bad, .bad, .bad, .bad, .bad, .bad, .bad, .bad, .bad, .bad, .bad, .bad, .bad, .bad, .bad, .bad, .bad], bl := [] }
theorem r_impl_ShowBox (A : Alg) (hA : A = std) (b : GBox) (hz : ∀ q ∈ zsBox b, q ≤ 1048576) (hr : rgBox b) : Real Tryd.prog 8 [.agg (eBox b)] (.str (boxT b)) := by
  obtain ⟨b_Valid, b_User, b_Name, b_Next, b_Mails⟩ := b
  obtain ⟨b_Mails_r, hb_Mails_r⟩ : ∃ r, r = b_Mails.map eMail := ⟨_, rfl⟩
  have lb_Mails_r : A.rlen b_Mails_r = (List.length b_Mails : Int) := rlen_map hA hb_Mails_r
  refine real_args (args' := [.agg [.int .i64 b_Valid, .str b_User, .str b_Name, .int .i64 b_Next, .sl 3 b_Mails_r]]) (by subst hb_Mails_r; rfl) ?_
  have sb_User : ByteArray.size b_User ≤ 1048576 := hz _ (by simp [zsBox])
  have sb_Name : ByteArray.size b_Name ≤ 1048576 := hz _ (by simp [zsBox])
  have zb_Mails : ∀ q ∈ zsMailS b_Mails, q ≤ 1048576 := fun q hq => hz q (by simp only [zsBox, List.mem_append]; simp only [hq, true_or, or_true])
  have nb_Mails : List.length b_Mails ≤ 1048576 := zb_Mails _ (by simp [zsMailS])
  have hmm : ∀ m ∈ b_Mails, rgMail m ∧ ByteArray.size m.Text ≤ 1048576 := fun m hm => ⟨hr.2.2 m hm, zb_Mails _ (List.mem_cons_of_mem _ (List.mem_flatMap.2 ⟨_, hm, by simp [zsMail]⟩))⟩
  have hv : i64 b_Valid := hr.1
  have hx : i64 b_Next := hr.2.1
  have hln : i64 (List.length b_Mails : Int) := by unfold i64; omega
  have hhd := headT_size sb_User sb_Name hv hx hln
  have z1 : (ByteArray.mk #[32]).size = 1 := rfl
  have z2 : (ByteArray.mk #[10]).size = 1 := rfl
  have hfv := figB_size _ hv
  have hfx := figB_size _ hx
  have hfl := itoaB_size _ hln
  have hfl2 := figB_size _ hln
  refine real tyOk Tryd.func8 (by kernel_rfl) (afun_of rfl ?_)
  refine go_seq ?_
  refine go_reg ?_
  refine run_aops hA 2 _ _ _ _ (by cbv) ?_
  refine ops_done ?_
  refine go_seq ?_
  obtain ⟨v12_1, hv12_1, hc2⟩ : ∃ (v12_1 : ByteArray), v12_1 = (figB b_Valid) ∧ Real Tryd.prog 21 [.int .i64 b_Valid] (.str v12_1) := ⟨_, rfl, by exact r_impl_figures A hA b_Valid (by first | assumption | (unfold i64 at *; omega))⟩
  obtain ⟨v15_3, hv15_3, hc4⟩ : ∃ (v15_3 : ByteArray), v15_3 = (figB b_Next) ∧ Real Tryd.prog 21 [.int .i64 b_Next] (.str v15_3) := ⟨_, rfl, by exact r_impl_figures A hA b_Next (by first | assumption | (unfold i64 at *; omega))⟩
  obtain ⟨v19_5, hv19_5, hc6⟩ : ∃ (v19_5 : ByteArray), v19_5 = (figB (A.rlen b_Mails_r)) ∧ Real Tryd.prog 21 [.int .i64 (A.rlen b_Mails_r)] (.str v19_5) := ⟨_, rfl, by exact r_impl_figures A hA (A.rlen b_Mails_r) (by first | assumption | (unfold i64 at *; omega))⟩
  obtain ⟨r7, hr7⟩ : ∃ r : List (List PV), r = [[.str b_User], [.str b_Name], [.str v12_1], [.str v15_3], [.str v19_5]] := ⟨_, rfl⟩
  have er7 : r7 = List.map eString ([b_User, b_Name, v12_1, v15_3, v19_5] : List ByteArray) := by rw [hr7]; rfl
  have lr7 : A.rlen r7 = (List.length ([b_User, b_Name, v12_1, v15_3, v19_5] : List ByteArray) : Int) := rlen_map hA er7
  obtain ⟨v21_8, hv21_8, hc9⟩ : ∃ (v21_8 : ByteArray), v21_8 = (joinB ([b_User, b_Name, v12_1, v15_3, v19_5] : List ByteArray) (ByteArray.mk #[32])) ∧ Real Tryd.prog 20 [.sl 1 (eraseR r7), .str (ByteArray.mk #[32])] (.str v21_8) := ⟨_, rfl, by subst er7; simp only [erR_String]; exact rJoin A hA ([b_User, b_Name, v12_1, v15_3, v19_5] : List ByteArray) (ByteArray.mk #[32]) (by simp) (by
    show (joinB _ spB).size ≤ _
    rw [join5]
    simp only [hv12_1, hv15_3, hv19_5, lb_Mails_r, lr7, ByteArray.size_append, sp1]
    omega)⟩
  obtain ⟨s10, hs10⟩ : ∃ s : ByteArray, s = v21_8 ++ (ByteArray.mk #[10]) := ⟨_, rfl⟩
  have zs10 : ByteArray.size s10 = ByteArray.size v21_8 + ByteArray.size (ByteArray.mk #[10]) := by rw [hs10]; exact ByteArray.size_append
  have bs10 : ByteArray.size v21_8 + ByteArray.size (ByteArray.mk #[10]) ≤ 140737488355328 := by
    have jv12_1 := congrArg ByteArray.size hv12_1
    try simp only [slen_eq hA, lb_Mails_r, lr7] at jv12_1
    have jv15_3 := congrArg ByteArray.size hv15_3
    try simp only [slen_eq hA, lb_Mails_r, lr7] at jv15_3
    have jv19_5 := congrArg ByteArray.size hv19_5
    try simp only [slen_eq hA, lb_Mails_r, lr7] at jv19_5
    have jv21_8 : ByteArray.size v21_8 ≤ 3000000 := by
      rw [hv21_8]
      show (joinB _ spB).size ≤ _
      rw [join5]
      simp only [hv12_1, hv15_3, hv19_5, hv21_8, lb_Mails_r, lr7, ByteArray.size_append, sp1]
      omega
    omega
  refine go_drawE [0, 1, 2, 3, 4, 5, 6, 7, 8, 9, 10, 11, 12, 13, 14, 15, 16, 17] (by cbv) rfl rfl ({ sl := [.agg [.int .i64 b_Valid, .str b_User, .str b_Name, .int .i64 b_Next, .sl 3 b_Mails_r], .pt 1 0 0, .str (ByteArray.mk #[]), .str s10, .bad, .bad, .pt 1 0 1, .str b_User, .pt 1 0 2, .str b_Name, .pt 1 0 0, .int .i64 b_Valid, .str v12_1, .pt 1 0 3, .int .i64 b_Next, .str v15_3, .pt 1 0 4, .sl 3 b_Mails_r, .int .i64 (A.rlen b_Mails_r), .str v19_5, .own 20, .str v21_8, .str s10, .bad, .bad, .bad, .bad, .bad, .bad, .bad, .bad, .bad, .bad, .bad, .bad, .bad, .bad, .bad, .bad, .bad, .bad, .bad, .bad, .bad, .bad, .bad, .bad, .bad, .bad, .bad], bl := [(1, ⟨.var, 5, [[.int .i64 b_Valid, .str b_User, .str b_Name, .int .i64 b_Next, .sl 3 b_Mails_r]]⟩), (20, ⟨.arr, 1, r7⟩)] } : St) (fun dR dK dhR dhF => ?_) ?_
  · skip
    have H_14 : ∀ (dn : Nat) (dB15 : Bool) (dB16 : Bool) (dB17 : Bool) (dQ15 : PV) (dQ16 : PV) (dQ17 : PV), (dB15 = true → dQ15 = .str v21_8) → (dB16 = true → dQ16 = .str s10) → (dB17 = true → dQ17 = .str s10) → (dB16 = true → dB15 = true) → (dB17 = true → dB16 = true) → (dB17 = true → dB15 = true) → cntF [true, true, true, true, true, true, true, true, true, true, true, true, true, true, true, dB15, dB16, dB17] = dn → dwp T ⟨Real Tryd.prog, RealM Tryd.prog, RealC Tryd.prog⟩ dR dK dn [true, true, true, true, true, true, true, true, true, true, true, true, true, true, true, dB15, dB16, dB17] ({ sl := [.agg [.int .i64 b_Valid, .str b_User, .str b_Name, .int .i64 b_Next, .sl 3 b_Mails_r], .pt 1 0 0, .str (ByteArray.mk #[]), dQ17, .bad, .bad, .pt 1 0 1, .str b_User, .pt 1 0 2, .str b_Name, .pt 1 0 0, .int .i64 b_Valid, .str v12_1, .pt 1 0 3, .int .i64 b_Next, .str v15_3, .pt 1 0 4, .sl 3 b_Mails_r, .int .i64 (A.rlen b_Mails_r), .str v19_5, .own 20, dQ15, dQ16, .bad, .bad, .bad, .bad, .bad, .bad, .bad, .bad, .bad, .bad, .bad, .bad, .bad, .bad, .bad, .bad, .bad, .bad, .bad, .bad, .bad, .bad, .bad, .bad, .bad, .bad, .bad], bl := [(1, ⟨.var, 5, [[.int .i64 b_Valid, .str b_User, .str b_Name, .int .i64 b_Next, .sl 3 b_Mails_r]]⟩), (20, ⟨.arr, 1, r7⟩)] } : St) := by
      intro dn
      induction dn with
      | zero =>
        intro dB15 dB16 dB17 dQ15 dQ16 dQ17 dh15 dh16 dh17 dp16_15 dp17_16 dp17_15 dhn
        have y15 : dB15 = true := cntF_zero  _ dhn 15 (by show 15 < 18; decide)
        subst y15
        have y15 := dh15 rfl
        subst y15
        have y16 : dB16 = true := cntF_zero  _ dhn 16 (by show 16 < 18; decide)
        subst y16
        have y16 := dh16 rfl
        subst y16
        have y17 : dB17 = true := cntF_zero  _ dhn 17 (by show 17 < 18; decide)
        subst y17
        have y17 := dh17 rfl
        subst y17
        exact dwp_last dhF
      | succ dn ih =>
        intro dB15 dB16 dB17 dQ15 dQ16 dQ17 dh15 dh16 dh17 dp16_15 dp17_16 dp17_15 dhn
        subst dhR
        refine dwp_next (is := [0, 1, 2, 3, 4, 5, 6, 7, 8, 9, 10, 11, 12, 13, 14, 15, 16, 17]) rfl ?_
        refine allRdy_none rfl ?_
        refine allRdy_none rfl ?_
        refine allRdy_none rfl ?_
        refine allRdy_none rfl ?_
        refine allRdy_none rfl ?_
        refine allRdy_none rfl ?_
        refine allRdy_none rfl ?_
        refine allRdy_none rfl ?_
        refine allRdy_none rfl ?_
        refine allRdy_none rfl ?_
        refine allRdy_none rfl ?_
        refine allRdy_none rfl ?_
        refine allRdy_none rfl ?_
        refine allRdy_none rfl ?_
        refine allRdy_none rfl ?_
        refine allRdy_q rfl rfl (fun h0 h1 => ?_) ?_
        · skip
          have y : dB15 = false := h0
          subst y
          refine ops_callV rfl rfl (by cbv) (by cbv) hc9 (.inl trivial) (by cbv) ?_
          exact ops_done (dwp_to [] (by cbv) rfl (ih true dB16 dB17 (.str v21_8) (dQ16) (dQ17) (fun _ => rfl) dh16 dh17 (fun _ => rfl) dp17_16 (fun _ => rfl) (cnt_dec h0 (by show 15 < 18; decide) dhn)))
        refine allRdy_q rfl rfl (fun h0 h1 => ?_) ?_
        · skip
          have y : dB16 = false := h0
          subst y
          have y : dB15 = true := h1.1
          subst y
          have y := dh15 rfl
          subst y
          refine ops_step rfl rfl (str_add rfl rfl rfl hs10 bs10) ?_
          exact ops_done (dwp_to [] (by cbv) rfl (ih true true dB17 (.str v21_8) (.str s10) (dQ17) (fun _ => rfl) (fun _ => rfl) dh17 (fun _ => rfl) (fun _ => rfl) (fun _ => rfl) (cnt_dec h0 (by show 16 < 18; decide) dhn)))
        refine allRdy_q rfl rfl (fun h0 h1 => ?_) ?_
        · skip
          have y : dB17 = false := h0
          subst y
          have y : dB16 = true := h1.1
          subst y
          have y := dh16 rfl
          subst y
          have y : dB15 = true := dp16_15 rfl
          subst y
          have y := dh15 rfl
          subst y
          refine run_aops hA 1 _ _ _ _ (by cbv) ?_
          exact ops_done (dwp_to [] (by cbv) rfl (ih true true true (.str v21_8) (.str s10) (.str s10) (fun _ => rfl) (fun _ => rfl) (fun _ => rfl) (fun _ => rfl) (fun _ => rfl) (fun _ => rfl) (cnt_dec h0 (by show 17 < 18; decide) dhn)))
        exact trivial
    have H_ : ∀ (dn : Nat) (dB0 : Bool) (dB1 : Bool) (dB2 : Bool) (dB3 : Bool) (dB4 : Bool) (dB5 : Bool) (dB6 : Bool) (dB7 : Bool) (dB8 : Bool) (dB9 : Bool) (dB10 : Bool) (dB11 : Bool) (dB12 : Bool) (dB13 : Bool) (dQ0 : PV) (dQ1 : PV) (dQ2 : PV) (dQ3 : PV) (dQ4 : PV) (dQ5 : PV) (dQ6 : PV) (dQ7 : PV) (dQ8 : PV) (dQ9 : PV) (dQ10 : PV) (dQ11 : PV) (dQ12 : PV) (dQ13 : PV), (dB0 = true → dQ0 = .pt 1 0 1) → (dB1 = true → dQ1 = .str b_User) → (dB2 = true → dQ2 = .pt 1 0 2) → (dB3 = true → dQ3 = .str b_Name) → (dB4 = true → dQ4 = .pt 1 0 0) → (dB5 = true → dQ5 = .int .i64 b_Valid) → (dB6 = true → dQ6 = .str v12_1) → (dB7 = true → dQ7 = .pt 1 0 3) → (dB8 = true → dQ8 = .int .i64 b_Next) → (dB9 = true → dQ9 = .str v15_3) → (dB10 = true → dQ10 = .pt 1 0 4) → (dB11 = true → dQ11 = .sl 3 b_Mails_r) → (dB12 = true → dQ12 = .int .i64 (A.rlen b_Mails_r)) → (dB13 = true → dQ13 = .str v19_5) → (dB1 = true → dB0 = true) → (dB3 = true → dB2 = true) → (dB5 = true → dB4 = true) → (dB6 = true → dB5 = true) → (dB8 = true → dB7 = true) → (dB9 = true → dB8 = true) → (dB9 = true → dB6 = true) → (dB11 = true → dB10 = true) → (dB12 = true → dB11 = true) → (dB13 = true → dB12 = true) → (dB13 = true → dB9 = true) → cntF [dB0, dB1, dB2, dB3, dB4, dB5, dB6, dB7, dB8, dB9, dB10, dB11, dB12, dB13, false, false, false, false] = dn → dwp T ⟨Real Tryd.prog, RealM Tryd.prog, RealC Tryd.prog⟩ dR dK dn [dB0, dB1, dB2, dB3, dB4, dB5, dB6, dB7, dB8, dB9, dB10, dB11, dB12, dB13, false, false, false, false] ({ sl := [.agg [.int .i64 b_Valid, .str b_User, .str b_Name, .int .i64 b_Next, .sl 3 b_Mails_r], .pt 1 0 0, .str (ByteArray.mk #[]), .bad, .bad, .bad, dQ0, dQ1, dQ2, dQ3, dQ4, dQ5, dQ6, dQ7, dQ8, dQ9, dQ10, dQ11, dQ12, dQ13, .bad, .bad, .bad, .bad, .bad, .bad, .bad, .bad, .bad, .bad, .bad, .bad, .bad, .bad, .bad, .bad, .bad, .bad, .bad, .bad, .bad, .bad, .bad, .bad, .bad, .bad, .bad, .bad, .bad, .bad], bl := [(1, ⟨.var, 5, [[.int .i64 b_Valid, .str b_User, .str b_Name, .int .i64 b_Next, .sl 3 b_Mails_r]]⟩)] } : St) := by
      intro dn
      induction dn with
      | zero =>
        intro dB0 dB1 dB2 dB3 dB4 dB5 dB6 dB7 dB8 dB9 dB10 dB11 dB12 dB13 dQ0 dQ1 dQ2 dQ3 dQ4 dQ5 dQ6 dQ7 dQ8 dQ9 dQ10 dQ11 dQ12 dQ13 dh0 dh1 dh2 dh3 dh4 dh5 dh6 dh7 dh8 dh9 dh10 dh11 dh12 dh13 dp1_0 dp3_2 dp5_4 dp6_5 dp8_7 dp9_8 dp9_6 dp11_10 dp12_11 dp13_12 dp13_9 dhn
        exact absurd (show false = true from cntF_zero  _ dhn 14 (by show 14 < 18; decide)) (by decide)
      | succ dn ih =>
        intro dB0 dB1 dB2 dB3 dB4 dB5 dB6 dB7 dB8 dB9 dB10 dB11 dB12 dB13 dQ0 dQ1 dQ2 dQ3 dQ4 dQ5 dQ6 dQ7 dQ8 dQ9 dQ10 dQ11 dQ12 dQ13 dh0 dh1 dh2 dh3 dh4 dh5 dh6 dh7 dh8 dh9 dh10 dh11 dh12 dh13 dp1_0 dp3_2 dp5_4 dp6_5 dp8_7 dp9_8 dp9_6 dp11_10 dp12_11 dp13_12 dp13_9 dhn
        subst dhR
        refine dwp_next (is := [0, 1, 2, 3, 4, 5, 6, 7, 8, 9, 10, 11, 12, 13, 14, 15, 16, 17]) rfl ?_
        refine allRdy_q rfl rfl (fun h0 h1 => ?_) ?_
        · skip
          have y : dB0 = false := h0
          subst y
          refine run_aops hA 1 _ _ _ _ (by cbv) ?_
          exact ops_done (dwp_to [] (by cbv) rfl (ih true dB1 dB2 dB3 dB4 dB5 dB6 dB7 dB8 dB9 dB10 dB11 dB12 dB13 (.pt 1 0 1) (dQ1) (dQ2) (dQ3) (dQ4) (dQ5) (dQ6) (dQ7) (dQ8) (dQ9) (dQ10) (dQ11) (dQ12) (dQ13) (fun _ => rfl) dh1 dh2 dh3 dh4 dh5 dh6 dh7 dh8 dh9 dh10 dh11 dh12 dh13 (fun _ => rfl) dp3_2 dp5_4 dp6_5 dp8_7 dp9_8 dp9_6 dp11_10 dp12_11 dp13_12 dp13_9 (cnt_dec h0 (by show 0 < 18; decide) dhn)))
        refine allRdy_q rfl rfl (fun h0 h1 => ?_) ?_
        · skip
          have y : dB1 = false := h0
          subst y
          have y : dB0 = true := h1.1
          subst y
          have y := dh0 rfl
          subst y
          refine run_aops hA 1 _ _ _ _ (by cbv) ?_
          exact ops_done (dwp_to [] (by cbv) rfl (ih true true dB2 dB3 dB4 dB5 dB6 dB7 dB8 dB9 dB10 dB11 dB12 dB13 (.pt 1 0 1) (.str b_User) (dQ2) (dQ3) (dQ4) (dQ5) (dQ6) (dQ7) (dQ8) (dQ9) (dQ10) (dQ11) (dQ12) (dQ13) (fun _ => rfl) (fun _ => rfl) dh2 dh3 dh4 dh5 dh6 dh7 dh8 dh9 dh10 dh11 dh12 dh13 (fun _ => rfl) dp3_2 dp5_4 dp6_5 dp8_7 dp9_8 dp9_6 dp11_10 dp12_11 dp13_12 dp13_9 (cnt_dec h0 (by show 1 < 18; decide) dhn)))
        refine allRdy_q rfl rfl (fun h0 h1 => ?_) ?_
        · skip
          have y : dB2 = false := h0
          subst y
          refine run_aops hA 1 _ _ _ _ (by cbv) ?_
          exact ops_done (dwp_to [] (by cbv) rfl (ih dB0 dB1 true dB3 dB4 dB5 dB6 dB7 dB8 dB9 dB10 dB11 dB12 dB13 (dQ0) (dQ1) (.pt 1 0 2) (dQ3) (dQ4) (dQ5) (dQ6) (dQ7) (dQ8) (dQ9) (dQ10) (dQ11) (dQ12) (dQ13) dh0 dh1 (fun _ => rfl) dh3 dh4 dh5 dh6 dh7 dh8 dh9 dh10 dh11 dh12 dh13 dp1_0 (fun _ => rfl) dp5_4 dp6_5 dp8_7 dp9_8 dp9_6 dp11_10 dp12_11 dp13_12 dp13_9 (cnt_dec h0 (by show 2 < 18; decide) dhn)))
        refine allRdy_q rfl rfl (fun h0 h1 => ?_) ?_
        · skip
          have y : dB3 = false := h0
          subst y
          have y : dB2 = true := h1.1
          subst y
          have y := dh2 rfl
          subst y
          refine run_aops hA 1 _ _ _ _ (by cbv) ?_
          exact ops_done (dwp_to [] (by cbv) rfl (ih dB0 dB1 true true dB4 dB5 dB6 dB7 dB8 dB9 dB10 dB11 dB12 dB13 (dQ0) (dQ1) (.pt 1 0 2) (.str b_Name) (dQ4) (dQ5) (dQ6) (dQ7) (dQ8) (dQ9) (dQ10) (dQ11) (dQ12) (dQ13) dh0 dh1 (fun _ => rfl) (fun _ => rfl) dh4 dh5 dh6 dh7 dh8 dh9 dh10 dh11 dh12 dh13 dp1_0 (fun _ => rfl) dp5_4 dp6_5 dp8_7 dp9_8 dp9_6 dp11_10 dp12_11 dp13_12 dp13_9 (cnt_dec h0 (by show 3 < 18; decide) dhn)))
        refine allRdy_q rfl rfl (fun h0 h1 => ?_) ?_
        · skip
          have y : dB4 = false := h0
          subst y
          refine run_aops hA 1 _ _ _ _ (by cbv) ?_
          exact ops_done (dwp_to [] (by cbv) rfl (ih dB0 dB1 dB2 dB3 true dB5 dB6 dB7 dB8 dB9 dB10 dB11 dB12 dB13 (dQ0) (dQ1) (dQ2) (dQ3) (.pt 1 0 0) (dQ5) (dQ6) (dQ7) (dQ8) (dQ9) (dQ10) (dQ11) (dQ12) (dQ13) dh0 dh1 dh2 dh3 (fun _ => rfl) dh5 dh6 dh7 dh8 dh9 dh10 dh11 dh12 dh13 dp1_0 dp3_2 (fun _ => rfl) dp6_5 dp8_7 dp9_8 dp9_6 dp11_10 dp12_11 dp13_12 dp13_9 (cnt_dec h0 (by show 4 < 18; decide) dhn)))
        refine allRdy_q rfl rfl (fun h0 h1 => ?_) ?_
        · skip
          have y : dB5 = false := h0
          subst y
          have y : dB4 = true := h1.1
          subst y
          have y := dh4 rfl
          subst y
          refine run_aops hA 1 _ _ _ _ (by cbv) ?_
          exact ops_done (dwp_to [] (by cbv) rfl (ih dB0 dB1 dB2 dB3 true true dB6 dB7 dB8 dB9 dB10 dB11 dB12 dB13 (dQ0) (dQ1) (dQ2) (dQ3) (.pt 1 0 0) (.int .i64 b_Valid) (dQ6) (dQ7) (dQ8) (dQ9) (dQ10) (dQ11) (dQ12) (dQ13) dh0 dh1 dh2 dh3 (fun _ => rfl) (fun _ => rfl) dh6 dh7 dh8 dh9 dh10 dh11 dh12 dh13 dp1_0 dp3_2 (fun _ => rfl) (fun _ => rfl) dp8_7 dp9_8 dp9_6 dp11_10 dp12_11 dp13_12 dp13_9 (cnt_dec h0 (by show 5 < 18; decide) dhn)))
        refine allRdy_q rfl rfl (fun h0 h1 => ?_) ?_
        · skip
          have y : dB6 = false := h0
          subst y
          have y : dB5 = true := h1.1
          subst y
          have y := dh5 rfl
          subst y
          have y : dB4 = true := dp5_4 rfl
          subst y
          have y := dh4 rfl
          subst y
          refine ops_callV rfl rfl (by cbv) (by cbv) hc2 (.inr rfl) (by cbv) ?_
          exact ops_done (dwp_to [] (by cbv) rfl (ih dB0 dB1 dB2 dB3 true true true dB7 dB8 dB9 dB10 dB11 dB12 dB13 (dQ0) (dQ1) (dQ2) (dQ3) (.pt 1 0 0) (.int .i64 b_Valid) (.str v12_1) (dQ7) (dQ8) (dQ9) (dQ10) (dQ11) (dQ12) (dQ13) dh0 dh1 dh2 dh3 (fun _ => rfl) (fun _ => rfl) (fun _ => rfl) dh7 dh8 dh9 dh10 dh11 dh12 dh13 dp1_0 dp3_2 (fun _ => rfl) (fun _ => rfl) dp8_7 dp9_8 (fun _ => rfl) dp11_10 dp12_11 dp13_12 dp13_9 (cnt_dec h0 (by show 6 < 18; decide) dhn)))
        refine allRdy_q rfl rfl (fun h0 h1 => ?_) ?_
        · skip
          have y : dB7 = false := h0
          subst y
          refine run_aops hA 1 _ _ _ _ (by cbv) ?_
          exact ops_done (dwp_to [] (by cbv) rfl (ih dB0 dB1 dB2 dB3 dB4 dB5 dB6 true dB8 dB9 dB10 dB11 dB12 dB13 (dQ0) (dQ1) (dQ2) (dQ3) (dQ4) (dQ5) (dQ6) (.pt 1 0 3) (dQ8) (dQ9) (dQ10) (dQ11) (dQ12) (dQ13) dh0 dh1 dh2 dh3 dh4 dh5 dh6 (fun _ => rfl) dh8 dh9 dh10 dh11 dh12 dh13 dp1_0 dp3_2 dp5_4 dp6_5 (fun _ => rfl) dp9_8 dp9_6 dp11_10 dp12_11 dp13_12 dp13_9 (cnt_dec h0 (by show 7 < 18; decide) dhn)))
        refine allRdy_q rfl rfl (fun h0 h1 => ?_) ?_
        · skip
          have y : dB8 = false := h0
          subst y
          have y : dB7 = true := h1.1
          subst y
          have y := dh7 rfl
          subst y
          refine run_aops hA 1 _ _ _ _ (by cbv) ?_
          exact ops_done (dwp_to [] (by cbv) rfl (ih dB0 dB1 dB2 dB3 dB4 dB5 dB6 true true dB9 dB10 dB11 dB12 dB13 (dQ0) (dQ1) (dQ2) (dQ3) (dQ4) (dQ5) (dQ6) (.pt 1 0 3) (.int .i64 b_Next) (dQ9) (dQ10) (dQ11) (dQ12) (dQ13) dh0 dh1 dh2 dh3 dh4 dh5 dh6 (fun _ => rfl) (fun _ => rfl) dh9 dh10 dh11 dh12 dh13 dp1_0 dp3_2 dp5_4 dp6_5 (fun _ => rfl) (fun _ => rfl) dp9_6 dp11_10 dp12_11 dp13_12 dp13_9 (cnt_dec h0 (by show 8 < 18; decide) dhn)))
        refine allRdy_q rfl rfl (fun h0 h1 => ?_) ?_
        · skip
          have y : dB9 = false := h0
          subst y
          have y : dB8 = true := h1.1
          subst y
          have y := dh8 rfl
          subst y
          have y : dB7 = true := dp8_7 rfl
          subst y
          have y := dh7 rfl
          subst y
          have y : dB6 = true := h1.2.1
          subst y
          have y := dh6 rfl
          subst y
          have y : dB5 = true := dp6_5 rfl
          subst y
          have y := dh5 rfl
          subst y
          have y : dB4 = true := dp5_4 rfl
          subst y
          have y := dh4 rfl
          subst y
          refine ops_callV rfl rfl (by cbv) (by cbv) hc4 (.inr rfl) (by cbv) ?_
          exact ops_done (dwp_to [] (by cbv) rfl (ih dB0 dB1 dB2 dB3 true true true true true true dB10 dB11 dB12 dB13 (dQ0) (dQ1) (dQ2) (dQ3) (.pt 1 0 0) (.int .i64 b_Valid) (.str v12_1) (.pt 1 0 3) (.int .i64 b_Next) (.str v15_3) (dQ10) (dQ11) (dQ12) (dQ13) dh0 dh1 dh2 dh3 (fun _ => rfl) (fun _ => rfl) (fun _ => rfl) (fun _ => rfl) (fun _ => rfl) (fun _ => rfl) dh10 dh11 dh12 dh13 dp1_0 dp3_2 (fun _ => rfl) (fun _ => rfl) (fun _ => rfl) (fun _ => rfl) (fun _ => rfl) dp11_10 dp12_11 dp13_12 (fun _ => rfl) (cnt_dec h0 (by show 9 < 18; decide) dhn)))
        refine allRdy_q rfl rfl (fun h0 h1 => ?_) ?_
        · skip
          have y : dB10 = false := h0
          subst y
          refine run_aops hA 1 _ _ _ _ (by cbv) ?_
          exact ops_done (dwp_to [] (by cbv) rfl (ih dB0 dB1 dB2 dB3 dB4 dB5 dB6 dB7 dB8 dB9 true dB11 dB12 dB13 (dQ0) (dQ1) (dQ2) (dQ3) (dQ4) (dQ5) (dQ6) (dQ7) (dQ8) (dQ9) (.pt 1 0 4) (dQ11) (dQ12) (dQ13) dh0 dh1 dh2 dh3 dh4 dh5 dh6 dh7 dh8 dh9 (fun _ => rfl) dh11 dh12 dh13 dp1_0 dp3_2 dp5_4 dp6_5 dp8_7 dp9_8 dp9_6 (fun _ => rfl) dp12_11 dp13_12 dp13_9 (cnt_dec h0 (by show 10 < 18; decide) dhn)))
        refine allRdy_q rfl rfl (fun h0 h1 => ?_) ?_
        · skip
          have y : dB11 = false := h0
          subst y
          have y : dB10 = true := h1.1
          subst y
          have y := dh10 rfl
          subst y
          refine run_aops hA 1 _ _ _ _ (by cbv) ?_
          exact ops_done (dwp_to [] (by cbv) rfl (ih dB0 dB1 dB2 dB3 dB4 dB5 dB6 dB7 dB8 dB9 true true dB12 dB13 (dQ0) (dQ1) (dQ2) (dQ3) (dQ4) (dQ5) (dQ6) (dQ7) (dQ8) (dQ9) (.pt 1 0 4) (.sl 3 b_Mails_r) (dQ12) (dQ13) dh0 dh1 dh2 dh3 dh4 dh5 dh6 dh7 dh8 dh9 (fun _ => rfl) (fun _ => rfl) dh12 dh13 dp1_0 dp3_2 dp5_4 dp6_5 dp8_7 dp9_8 dp9_6 (fun _ => rfl) (fun _ => rfl) dp13_12 dp13_9 (cnt_dec h0 (by show 11 < 18; decide) dhn)))
        refine allRdy_q rfl rfl (fun h0 h1 => ?_) ?_
        · skip
          have y : dB12 = false := h0
          subst y
          have y : dB11 = true := h1.1
          subst y
          have y := dh11 rfl
          subst y
          have y : dB10 = true := dp11_10 rfl
          subst y
          have y := dh10 rfl
          subst y
          refine run_aops hA 1 _ _ _ _ (by cbv) ?_
          exact ops_done (dwp_to [] (by cbv) rfl (ih dB0 dB1 dB2 dB3 dB4 dB5 dB6 dB7 dB8 dB9 true true true dB13 (dQ0) (dQ1) (dQ2) (dQ3) (dQ4) (dQ5) (dQ6) (dQ7) (dQ8) (dQ9) (.pt 1 0 4) (.sl 3 b_Mails_r) (.int .i64 (A.rlen b_Mails_r)) (dQ13) dh0 dh1 dh2 dh3 dh4 dh5 dh6 dh7 dh8 dh9 (fun _ => rfl) (fun _ => rfl) (fun _ => rfl) dh13 dp1_0 dp3_2 dp5_4 dp6_5 dp8_7 dp9_8 dp9_6 (fun _ => rfl) (fun _ => rfl) (fun _ => rfl) dp13_9 (cnt_dec h0 (by show 12 < 18; decide) dhn)))
        refine allRdy_q rfl rfl (fun h0 h1 => ?_) ?_
        · skip
          have y : dB13 = false := h0
          subst y
          have y : dB12 = true := h1.1
          subst y
          have y := dh12 rfl
          subst y
          have y : dB11 = true := dp12_11 rfl
          subst y
          have y := dh11 rfl
          subst y
          have y : dB10 = true := dp11_10 rfl
          subst y
          have y := dh10 rfl
          subst y
          have y : dB9 = true := h1.2.1
          subst y
          have y := dh9 rfl
          subst y
          have y : dB8 = true := dp9_8 rfl
          subst y
          have y := dh8 rfl
          subst y
          have y : dB7 = true := dp8_7 rfl
          subst y
          have y := dh7 rfl
          subst y
          have y : dB6 = true := dp9_6 rfl
          subst y
          have y := dh6 rfl
          subst y
          have y : dB5 = true := dp6_5 rfl
          subst y
          have y := dh5 rfl
          subst y
          have y : dB4 = true := dp5_4 rfl
          subst y
          have y := dh4 rfl
          subst y
          refine ops_callV rfl rfl (by cbv) (by cbv) hc6 (.inr rfl) (by cbv) ?_
          exact ops_done (dwp_to [] (by cbv) rfl (ih dB0 dB1 dB2 dB3 true true true true true true true true true true (dQ0) (dQ1) (dQ2) (dQ3) (.pt 1 0 0) (.int .i64 b_Valid) (.str v12_1) (.pt 1 0 3) (.int .i64 b_Next) (.str v15_3) (.pt 1 0 4) (.sl 3 b_Mails_r) (.int .i64 (A.rlen b_Mails_r)) (.str v19_5) dh0 dh1 dh2 dh3 (fun _ => rfl) (fun _ => rfl) (fun _ => rfl) (fun _ => rfl) (fun _ => rfl) (fun _ => rfl) (fun _ => rfl) (fun _ => rfl) (fun _ => rfl) (fun _ => rfl) dp1_0 dp3_2 (fun _ => rfl) (fun _ => rfl) (fun _ => rfl) (fun _ => rfl) (fun _ => rfl) (fun _ => rfl) (fun _ => rfl) (fun _ => rfl) (fun _ => rfl) (cnt_dec h0 (by show 13 < 18; decide) dhn)))
        refine allRdy_q rfl rfl (fun h0 h1 => ?_) ?_
        · skip
          have y : dB1 = true := h1.1
          subst y
          have y := dh1 rfl
          subst y
          have y : dB0 = true := dp1_0 rfl
          subst y
          have y := dh0 rfl
          subst y
          have y : dB3 = true := h1.2.1
          subst y
          have y := dh3 rfl
          subst y
          have y : dB2 = true := dp3_2 rfl
          subst y
          have y := dh2 rfl
          subst y
          have y : dB6 = true := h1.2.2.1
          subst y
          have y := dh6 rfl
          subst y
          have y : dB5 = true := dp6_5 rfl
          subst y
          have y := dh5 rfl
          subst y
          have y : dB4 = true := dp5_4 rfl
          subst y
          have y := dh4 rfl
          subst y
          have y : dB9 = true := h1.2.2.2.1
          subst y
          have y := dh9 rfl
          subst y
          have y : dB8 = true := dp9_8 rfl
          subst y
          have y := dh8 rfl
          subst y
          have y : dB7 = true := dp8_7 rfl
          subst y
          have y := dh7 rfl
          subst y
          have y : dB13 = true := h1.2.2.2.2.1
          subst y
          have y := dh13 rfl
          subst y
          have y : dB12 = true := dp13_12 rfl
          subst y
          have y := dh12 rfl
          subst y
          have y : dB11 = true := dp12_11 rfl
          subst y
          have y := dh11 rfl
          subst y
          have y : dB10 = true := dp11_10 rfl
          subst y
          have y := dh10 rfl
          subst y
          refine ops_ext rfl (ext_lit rfl rfl rfl rfl rfl rfl rfl hr7) ?_
          exact ops_done (dwp_to [.up 20, .up 1] (by cbv) rfl (H_14 dn false false false (.bad) (.bad) (.bad) (fun h => absurd h (by decide)) (fun h => absurd h (by decide)) (fun h => absurd h (by decide)) (fun h => absurd h (by decide)) (fun h => absurd h (by decide)) (fun h => absurd h (by decide)) (cnt_dec h0 (by show 14 < 18; decide) dhn)))
        refine allRdy_q rfl rfl (fun _ h1 => absurd (show false = true from h1.1) (by decide)) ?_
        refine allRdy_q rfl rfl (fun _ h1 => absurd (show false = true from h1.1) (by decide)) ?_
        refine allRdy_q rfl rfl (fun _ h1 => absurd (show false = true from h1.1) (by decide)) ?_
        exact trivial
    exact dwp_to [] (by cbv) rfl (H_ 18 false false false false false false false false false false false false false false (.bad) (.bad) (.bad) (.bad) (.bad) (.bad) (.bad) (.bad) (.bad) (.bad) (.bad) (.bad) (.bad) (.bad) (fun h => absurd h (by decide)) (fun h => absurd h (by decide)) (fun h => absurd h (by decide)) (fun h => absurd h (by decide)) (fun h => absurd h (by decide)) (fun h => absurd h (by decide)) (fun h => absurd h (by decide)) (fun h => absurd h (by decide)) (fun h => absurd h (by decide)) (fun h => absurd h (by decide)) (fun h => absurd h (by decide)) (fun h => absurd h (by decide)) (fun h => absurd h (by decide)) (fun h => absurd h (by decide)) (fun h => absurd h (by decide)) (fun h => absurd h (by decide)) (fun h => absurd h (by decide)) (fun h => absurd h (by decide)) (fun h => absurd h (by decide)) (fun h => absurd h (by decide)) (fun h => absurd h (by decide)) (fun h => absurd h (by decide)) (fun h => absurd h (by decide)) (fun h => absurd h (by decide)) (fun h => absurd h (by decide)) rfl)
  refine go_seq ?_
  refine go_seq ?_
  refine go_reg ?_
  refine run_aops hA 4 _ _ _ _ (by cbv) ?_
  refine ops_done ?_
  refine go_block ?_
  refine go_loopE (fun σ m => ∃ (i : Nat) (n : Int) (S : ByteArray), σ = (S8_1 S b_Mails_r (A.rlen b_Mails_r) n) ∧ (n = (i : Int) ∧ i ≤ List.length b_Mails ∧ S = catM (headT b_User b_Name b_Valid b_Next (List.length b_Mails : Int)) (b_Mails.take i)) ∧ m = List.length b_Mails - i) _ [.up 20, .up 1] [3, 24, 25, 26] [] (S8_1 s10 b_Mails_r (A.rlen b_Mails_r) 0) rfl (by cbv) ⟨0, 0, s10, rfl, ?_, rfl⟩ (fun σ m hI => ?_)
  · skip
    refine ⟨rfl, Nat.zero_le _, ?_⟩
    show _ = headT b_User b_Name b_Valid b_Next (List.length b_Mails : Int)
    simp only [hs10, hv12_1, hv15_3, hv19_5, hv21_8, slen_eq hA, lb_Mails_r, lr7]
    rw [figB_nn (n := (List.length b_Mails : Int)) (by omega)]
    exact congrArg (· ++ nlB) (join5 _ _ _ _ _)
  obtain ⟨i, n, S, rfl, ⟨hn, hi, hS⟩, rfl⟩ := hI
  have hSz : ByteArray.size S ≤ 200000000 := by
    have := catM_size (h := S) (b_Mails.take i) (fun m hm => hmm m (List.mem_of_mem_take hm)) (headT b_User b_Name b_Valid b_Next (List.length b_Mails : Int))
    rw [← hS, List.length_take] at this
    omega
  refine go_seq ?_
  refine go_reg ?_
  refine run_aops hA 1 _ _ _ _ (by cbv) ?_
  refine ops_done ?_
  refine go_seq ?_
  refine go_cond rfl (fun c11 => ?_) (fun c11 => ?_)
  · skip
    have ec11 : n < (A.rlen b_Mails_r) := lss_t hA c11
    refine go_skip ?_
    refine go_seq ?_
    refine go_block ?_
    refine go_seq ?_
    refine go_reg ?_
    have h0x12 : (0 : Int) ≤ n := by
      omega
    have hlx12 : (Int.toNat n) < List.length b_Mails := by
      omega
    obtain ⟨x12, hx12⟩ : ∃ x, (b_Mails)[(Int.toNat n)]? = some x := ⟨_, List.getElem?_eq_getElem hlx12⟩
    have hmx12 := List.mem_of_getElem? hx12
    obtain ⟨x12_Uid, x12_Flags, x12_Text⟩ := x12
    have hrx12 : b_Mails_r[(Int.toNat n)]? = some [.int .i64 x12_Uid, .int .i64 x12_Flags, .str x12_Text] := by
      exact map_at eMail hb_Mails_r hx12
    have hix12 := hx12
    rw [hn] at hix12
    have hix12 : (b_Mails)[i]? = some (⟨x12_Uid, x12_Flags, x12_Text⟩ : GMail) := hix12
    have hgx12 : i64 x12_Uid ∧ i64 x12_Flags := (hmm _ hmx12).1
    obtain ⟨hgux12, hgfx12⟩ := hgx12
    have htx12 : ByteArray.size x12_Text ≤ 1048576 := (hmm _ hmx12).2
    have zlx12 := slen_eq hA x12_Text
    have hfux12 := figB_size _ hgux12
    have hffx12 := flagW_size x12_Flags
    have htlx12 := itoaB_size (ByteArray.size x12_Text : Int) (by unfold i64; omega)
    have htfx12 := figB_size (ByteArray.size x12_Text : Int) (by unfold i64; omega)
    refine ops_step rfl rfl (idx_sl rfl rfl rfl rfl rfl h0x12 rfl hrx12) ?_
    refine run_aops hA 3 _ _ _ _ (by cbv) ?_
    refine ops_done ?_
    refine go_draw (by cbv) ?_
    refine run_dops hA 3 _ _ _ _ (by cbv) ?_
    obtain ⟨v33_13, hv33_13, hc14⟩ : ∃ (v33_13 : ByteArray), v33_13 = (figB x12_Uid) ∧ Real Tryd.prog 21 [.int .i64 x12_Uid] (.str v33_13) := ⟨_, rfl, by exact r_impl_figures A hA x12_Uid (by first | assumption | (unfold i64 at *; omega))⟩
    refine dops_callV rfl rfl (by cbv) (by cbv) hc14 (.inr rfl) ?_
    obtain ⟨s15, hs15⟩ : ∃ s : ByteArray, s = (ByteArray.mk #[32]) ++ v33_13 := ⟨_, rfl⟩
    have zs15 : ByteArray.size s15 = ByteArray.size (ByteArray.mk #[32]) + ByteArray.size v33_13 := by rw [hs15]; exact ByteArray.size_append
    have bs15 : ByteArray.size (ByteArray.mk #[32]) + ByteArray.size v33_13 ≤ 140737488355328 := by
      have jv12_1 := congrArg ByteArray.size hv12_1
      try simp only [slen_eq hA, lb_Mails_r, lr7] at jv12_1
      have jv15_3 := congrArg ByteArray.size hv15_3
      try simp only [slen_eq hA, lb_Mails_r, lr7] at jv15_3
      have jv19_5 := congrArg ByteArray.size hv19_5
      try simp only [slen_eq hA, lb_Mails_r, lr7] at jv19_5
      have jv21_8 : ByteArray.size v21_8 ≤ 3000000 := by
        rw [hv21_8]
        show (joinB _ spB).size ≤ _
        rw [join5]
        simp only [hv12_1, hv15_3, hv19_5, hv21_8, hv33_13, lb_Mails_r, lr7, ByteArray.size_append, sp1]
        omega
      have jv33_13 := congrArg ByteArray.size hv33_13
      try simp only [slen_eq hA, lb_Mails_r, lr7] at jv33_13
      omega
    refine dops_step rfl rfl rfl (str_add rfl rfl rfl hs15 bs15) ?_
    obtain ⟨s16, hs16⟩ : ∃ s : ByteArray, s = s15 ++ (ByteArray.mk #[32]) := ⟨_, rfl⟩
    have zs16 : ByteArray.size s16 = ByteArray.size s15 + ByteArray.size (ByteArray.mk #[32]) := by rw [hs16]; exact ByteArray.size_append
    have bs16 : ByteArray.size s15 + ByteArray.size (ByteArray.mk #[32]) ≤ 140737488355328 := by
      have jv12_1 := congrArg ByteArray.size hv12_1
      try simp only [slen_eq hA, lb_Mails_r, lr7] at jv12_1
      have jv15_3 := congrArg ByteArray.size hv15_3
      try simp only [slen_eq hA, lb_Mails_r, lr7] at jv15_3
      have jv19_5 := congrArg ByteArray.size hv19_5
      try simp only [slen_eq hA, lb_Mails_r, lr7] at jv19_5
      have jv21_8 : ByteArray.size v21_8 ≤ 3000000 := by
        rw [hv21_8]
        show (joinB _ spB).size ≤ _
        rw [join5]
        simp only [hv12_1, hv15_3, hv19_5, hv21_8, hv33_13, lb_Mails_r, lr7, ByteArray.size_append, sp1]
        omega
      have jv33_13 := congrArg ByteArray.size hv33_13
      try simp only [slen_eq hA, lb_Mails_r, lr7] at jv33_13
      omega
    refine dops_step rfl rfl rfl (str_add rfl rfl rfl hs16 bs16) ?_
    refine run_dops hA 2 _ _ _ _ (by cbv) ?_
    obtain ⟨v38_17, hv38_17, hc18⟩ : ∃ (v38_17 : ByteArray), v38_17 = (flagW x12_Flags) ∧ Real Tryd.prog 22 [.int .i64 x12_Flags] (.str v38_17) := ⟨_, rfl, by exact r_impl_FlagWords A hA x12_Flags (by assumption)⟩
    refine dops_callV rfl rfl (by cbv) (by cbv) hc18 (.inr rfl) ?_
    obtain ⟨s19, hs19⟩ : ∃ s : ByteArray, s = s16 ++ v38_17 := ⟨_, rfl⟩
    have zs19 : ByteArray.size s19 = ByteArray.size s16 + ByteArray.size v38_17 := by rw [hs19]; exact ByteArray.size_append
    have bs19 : ByteArray.size s16 + ByteArray.size v38_17 ≤ 140737488355328 := by
      have jv12_1 := congrArg ByteArray.size hv12_1
      try simp only [slen_eq hA, lb_Mails_r, lr7] at jv12_1
      have jv15_3 := congrArg ByteArray.size hv15_3
      try simp only [slen_eq hA, lb_Mails_r, lr7] at jv15_3
      have jv19_5 := congrArg ByteArray.size hv19_5
      try simp only [slen_eq hA, lb_Mails_r, lr7] at jv19_5
      have jv21_8 : ByteArray.size v21_8 ≤ 3000000 := by
        rw [hv21_8]
        show (joinB _ spB).size ≤ _
        rw [join5]
        simp only [hv12_1, hv15_3, hv19_5, hv21_8, hv33_13, hv38_17, lb_Mails_r, lr7, ByteArray.size_append, sp1]
        omega
      have jv33_13 := congrArg ByteArray.size hv33_13
      try simp only [slen_eq hA, lb_Mails_r, lr7] at jv33_13
      have jv38_17 := congrArg ByteArray.size hv38_17
      try simp only [slen_eq hA, lb_Mails_r, lr7] at jv38_17
      omega
    refine dops_step rfl rfl rfl (str_add rfl rfl rfl hs19 bs19) ?_
    obtain ⟨s20, hs20⟩ : ∃ s : ByteArray, s = s19 ++ (ByteArray.mk #[32]) := ⟨_, rfl⟩
    have zs20 : ByteArray.size s20 = ByteArray.size s19 + ByteArray.size (ByteArray.mk #[32]) := by rw [hs20]; exact ByteArray.size_append
    have bs20 : ByteArray.size s19 + ByteArray.size (ByteArray.mk #[32]) ≤ 140737488355328 := by
      have jv12_1 := congrArg ByteArray.size hv12_1
      try simp only [slen_eq hA, lb_Mails_r, lr7] at jv12_1
      have jv15_3 := congrArg ByteArray.size hv15_3
      try simp only [slen_eq hA, lb_Mails_r, lr7] at jv15_3
      have jv19_5 := congrArg ByteArray.size hv19_5
      try simp only [slen_eq hA, lb_Mails_r, lr7] at jv19_5
      have jv21_8 : ByteArray.size v21_8 ≤ 3000000 := by
        rw [hv21_8]
        show (joinB _ spB).size ≤ _
        rw [join5]
        simp only [hv12_1, hv15_3, hv19_5, hv21_8, hv33_13, hv38_17, lb_Mails_r, lr7, ByteArray.size_append, sp1]
        omega
      have jv33_13 := congrArg ByteArray.size hv33_13
      try simp only [slen_eq hA, lb_Mails_r, lr7] at jv33_13
      have jv38_17 := congrArg ByteArray.size hv38_17
      try simp only [slen_eq hA, lb_Mails_r, lr7] at jv38_17
      omega
    refine dops_step rfl rfl rfl (str_add rfl rfl rfl hs20 bs20) ?_
    refine run_dops hA 3 _ _ _ _ (by cbv) ?_
    obtain ⟨v44_21, hv44_21, hc22⟩ : ∃ (v44_21 : ByteArray), v44_21 = (figB (A.slen x12_Text)) ∧ Real Tryd.prog 21 [.int .i64 (A.slen x12_Text)] (.str v44_21) := ⟨_, rfl, by exact r_impl_figures A hA (A.slen x12_Text) (by first | assumption | (unfold i64 at *; omega))⟩
    refine dops_callV rfl rfl (by cbv) (by cbv) hc22 (.inr rfl) ?_
    obtain ⟨s23, hs23⟩ : ∃ s : ByteArray, s = s20 ++ v44_21 := ⟨_, rfl⟩
    have zs23 : ByteArray.size s23 = ByteArray.size s20 + ByteArray.size v44_21 := by rw [hs23]; exact ByteArray.size_append
    have bs23 : ByteArray.size s20 + ByteArray.size v44_21 ≤ 140737488355328 := by
      have jv12_1 := congrArg ByteArray.size hv12_1
      try simp only [slen_eq hA, lb_Mails_r, lr7] at jv12_1
      have jv15_3 := congrArg ByteArray.size hv15_3
      try simp only [slen_eq hA, lb_Mails_r, lr7] at jv15_3
      have jv19_5 := congrArg ByteArray.size hv19_5
      try simp only [slen_eq hA, lb_Mails_r, lr7] at jv19_5
      have jv21_8 : ByteArray.size v21_8 ≤ 3000000 := by
        rw [hv21_8]
        show (joinB _ spB).size ≤ _
        rw [join5]
        simp only [hv12_1, hv15_3, hv19_5, hv21_8, hv33_13, hv38_17, hv44_21, lb_Mails_r, lr7, ByteArray.size_append, sp1]
        omega
      have jv33_13 := congrArg ByteArray.size hv33_13
      try simp only [slen_eq hA, lb_Mails_r, lr7] at jv33_13
      have jv38_17 := congrArg ByteArray.size hv38_17
      try simp only [slen_eq hA, lb_Mails_r, lr7] at jv38_17
      have jv44_21 := congrArg ByteArray.size hv44_21
      try simp only [slen_eq hA, lb_Mails_r, lr7] at jv44_21
      omega
    refine dops_step rfl rfl rfl (str_add rfl rfl rfl hs23 bs23) ?_
    obtain ⟨s24, hs24⟩ : ∃ s : ByteArray, s = s23 ++ (ByteArray.mk #[10]) := ⟨_, rfl⟩
    have zs24 : ByteArray.size s24 = ByteArray.size s23 + ByteArray.size (ByteArray.mk #[10]) := by rw [hs24]; exact ByteArray.size_append
    have bs24 : ByteArray.size s23 + ByteArray.size (ByteArray.mk #[10]) ≤ 140737488355328 := by
      have jv12_1 := congrArg ByteArray.size hv12_1
      try simp only [slen_eq hA, lb_Mails_r, lr7] at jv12_1
      have jv15_3 := congrArg ByteArray.size hv15_3
      try simp only [slen_eq hA, lb_Mails_r, lr7] at jv15_3
      have jv19_5 := congrArg ByteArray.size hv19_5
      try simp only [slen_eq hA, lb_Mails_r, lr7] at jv19_5
      have jv21_8 : ByteArray.size v21_8 ≤ 3000000 := by
        rw [hv21_8]
        show (joinB _ spB).size ≤ _
        rw [join5]
        simp only [hv12_1, hv15_3, hv19_5, hv21_8, hv33_13, hv38_17, hv44_21, lb_Mails_r, lr7, ByteArray.size_append, sp1]
        omega
      have jv33_13 := congrArg ByteArray.size hv33_13
      try simp only [slen_eq hA, lb_Mails_r, lr7] at jv33_13
      have jv38_17 := congrArg ByteArray.size hv38_17
      try simp only [slen_eq hA, lb_Mails_r, lr7] at jv38_17
      have jv44_21 := congrArg ByteArray.size hv44_21
      try simp only [slen_eq hA, lb_Mails_r, lr7] at jv44_21
      omega
    refine dops_step rfl rfl rfl (str_add rfl rfl rfl hs24 bs24) ?_
    obtain ⟨s25, hs25⟩ : ∃ s : ByteArray, s = S ++ s24 := ⟨_, rfl⟩
    have zs25 : ByteArray.size s25 = ByteArray.size S + ByteArray.size s24 := by rw [hs25]; exact ByteArray.size_append
    have bs25 : ByteArray.size S + ByteArray.size s24 ≤ 140737488355328 := by
      have jv12_1 := congrArg ByteArray.size hv12_1
      try simp only [slen_eq hA, lb_Mails_r, lr7] at jv12_1
      have jv15_3 := congrArg ByteArray.size hv15_3
      try simp only [slen_eq hA, lb_Mails_r, lr7] at jv15_3
      have jv19_5 := congrArg ByteArray.size hv19_5
      try simp only [slen_eq hA, lb_Mails_r, lr7] at jv19_5
      have jv21_8 : ByteArray.size v21_8 ≤ 3000000 := by
        rw [hv21_8]
        show (joinB _ spB).size ≤ _
        rw [join5]
        simp only [hv12_1, hv15_3, hv19_5, hv21_8, hv33_13, hv38_17, hv44_21, lb_Mails_r, lr7, ByteArray.size_append, sp1]
        omega
      have jv33_13 := congrArg ByteArray.size hv33_13
      try simp only [slen_eq hA, lb_Mails_r, lr7] at jv33_13
      have jv38_17 := congrArg ByteArray.size hv38_17
      try simp only [slen_eq hA, lb_Mails_r, lr7] at jv38_17
      have jv44_21 := congrArg ByteArray.size hv44_21
      try simp only [slen_eq hA, lb_Mails_r, lr7] at jv44_21
      omega
    refine dops_step rfl rfl rfl (str_add rfl rfl rfl hs25 bs25) ?_
    refine run_dops hA 1 _ _ _ _ (by cbv) ?_
    refine dops_done ?_
    refine go_reg ?_
    refine run_aops hA 2 _ _ _ _ (by cbv) ?_
    refine ops_done ?_
    refine ⟨(S8_1 s25 b_Mails_r (A.rlen b_Mails_r) (A.num .add .i64 n 1)), List.length b_Mails - (i + 1), ?_, by cbv, i + 1, (A.num .add .i64 n 1), s25, rfl, ?_, rfl⟩
    · skip
      omega
    · skip
      refine ⟨by rw [add_i64 hA (by omega) (by omega)]; omega, by omega, ?_⟩
      rw [catM_at hix12, ← hS]
      simp only [hs25, hs24, hs23, hs20, hs19, hs16, hs15, hs10, hv12_1, hv15_3, hv19_5, hv21_8, hv33_13, hv38_17, hv44_21, zlx12]
      rw [figB_nn (n := (ByteArray.size x12_Text : Int)) (by omega)]
      simp only [mailT, spB, nlB, ByteArray.append_assoc]
  · skip
    have ec11 : (A.rlen b_Mails_r) ≤ n := lss_f hA c11
    refine go_exit ⟨fun _ => ?_, fun h => absurd rfl h⟩
    refine go_seq ?_
    refine go_reg ?_
    refine run_aops hA 2 _ _ _ _ (by cbv) ?_
    refine ops_done ?_
    refine go_ret ⟨_, by cbv, ?_⟩
    show _ = (PV.str S)
    refine congrArg PV.str ?_
    rw [hS, List.take_of_length_le (by omega)]; rfl

def S6_1 (p0 : ByteArray) (p1 : Int) (p2 : Int) (p3 : ByteArray) (p4 : ByteArray) (p5 : Int) (p6 : List (List PV)) : St := { sl := [.bad, .pt 1 0 0, .bad, .str p0, .int .i64 p1, .bad, .bad, .bad, .bad, .bad, .bad, .bad, .bad, .bad, .bad, .bad, .bad, .bad, .bad, .bad, .bad, .bad, .bad, .bad, .bad, .bad, .bad, .bad, .bad, .bad, .bad, .bad, .bad, .bad, .bad, .bad, .bad, .bad, .bad, .bad, .bad, .bad, .bad, .bad, .bad, .bad, .bad, .bad, .bad, .bad, .bad, .bad, .bad, .bad, .bad, .bad, .bad, .bad, .bad, .bad], bl := [(1, ⟨.var, 5, [[.int .i64 p2, .str p3, .str p4, .int .i64 p5, .sl 3 p6]]⟩)] }
theorem r_spec_ShowBox (A : Alg) (hA : A = std) (b : GBox) (hz : ∀ q ∈ zsBox b, q ≤ 1048576) (hr : rgBox b) : Real Tryd.prog 6 [.agg (eBox b)] (.str (boxT b)) := by
  obtain ⟨b_Valid, b_User, b_Name, b_Next, b_Mails⟩ := b
  obtain ⟨b_Mails_r, hb_Mails_r⟩ : ∃ r, r = b_Mails.map eMail := ⟨_, rfl⟩
  have lb_Mails_r : A.rlen b_Mails_r = (List.length b_Mails : Int) := rlen_map hA hb_Mails_r
  refine real_args (args' := [.agg [.int .i64 b_Valid, .str b_User, .str b_Name, .int .i64 b_Next, .sl 3 b_Mails_r]]) (by subst hb_Mails_r; rfl) ?_
  have sb_User : ByteArray.size b_User ≤ 1048576 := hz _ (by simp [zsBox])
  have sb_Name : ByteArray.size b_Name ≤ 1048576 := hz _ (by simp [zsBox])
  have zb_Mails : ∀ q ∈ zsMailS b_Mails, q ≤ 1048576 := fun q hq => hz q (by simp only [zsBox, List.mem_append]; simp only [hq, true_or, or_true])
  have nb_Mails : List.length b_Mails ≤ 1048576 := zb_Mails _ (by simp [zsMailS])
  have hmm : ∀ m ∈ b_Mails, rgMail m ∧ ByteArray.size m.Text ≤ 1048576 := fun m hm => ⟨hr.2.2 m hm, zb_Mails _ (List.mem_cons_of_mem _ (List.mem_flatMap.2 ⟨_, hm, by simp [zsMail]⟩))⟩
  have hv : i64 b_Valid := hr.1
  have hx : i64 b_Next := hr.2.1
  have hln : i64 (List.length b_Mails : Int) := by unfold i64; omega
  have hhd := headT_size sb_User sb_Name hv hx hln
  have z1 : (ByteArray.mk #[32]).size = 1 := rfl
  have z2 : (ByteArray.mk #[10]).size = 1 := rfl
  have hfv := figB_size _ hv
  have hfx := figB_size _ hx
  have hfl := itoaB_size _ hln
  have hfl2 := figB_size _ hln
  refine real tyOk Tryd.func6 (by kernel_rfl) (afun_of rfl ?_)
  refine go_seq ?_
  refine go_reg ?_
  refine run_aops hA 2 _ _ _ _ (by cbv) ?_
  refine ops_done ?_
  refine go_seq ?_
  refine go_draw (by cbv) ?_
  refine run_dops hA 2 _ _ _ _ (by cbv) ?_
  obtain ⟨s1, hs1⟩ : ∃ s : ByteArray, s = b_User ++ (ByteArray.mk #[32]) := ⟨_, rfl⟩
  have zs1 : ByteArray.size s1 = ByteArray.size b_User + ByteArray.size (ByteArray.mk #[32]) := by rw [hs1]; exact ByteArray.size_append
  have bs1 : ByteArray.size b_User + ByteArray.size (ByteArray.mk #[32]) ≤ 140737488355328 := by
    omega
  refine dops_step rfl rfl rfl (str_add rfl rfl rfl hs1 bs1) ?_
  refine run_dops hA 2 _ _ _ _ (by cbv) ?_
  obtain ⟨s2, hs2⟩ : ∃ s : ByteArray, s = s1 ++ b_Name := ⟨_, rfl⟩
  have zs2 : ByteArray.size s2 = ByteArray.size s1 + ByteArray.size b_Name := by rw [hs2]; exact ByteArray.size_append
  have bs2 : ByteArray.size s1 + ByteArray.size b_Name ≤ 140737488355328 := by
    omega
  refine dops_step rfl rfl rfl (str_add rfl rfl rfl hs2 bs2) ?_
  obtain ⟨s3, hs3⟩ : ∃ s : ByteArray, s = s2 ++ (ByteArray.mk #[32]) := ⟨_, rfl⟩
  have zs3 : ByteArray.size s3 = ByteArray.size s2 + ByteArray.size (ByteArray.mk #[32]) := by rw [hs3]; exact ByteArray.size_append
  have bs3 : ByteArray.size s2 + ByteArray.size (ByteArray.mk #[32]) ≤ 140737488355328 := by
    omega
  refine dops_step rfl rfl rfl (str_add rfl rfl rfl hs3 bs3) ?_
  refine run_dops hA 2 _ _ _ _ (by cbv) ?_
  obtain ⟨v15_4, hv15_4, hc5⟩ : ∃ (v15_4 : ByteArray), v15_4 = (figB b_Valid) ∧ Real Tryd.prog 16 [.int .i64 b_Valid] (.str v15_4) := ⟨_, rfl, by exact r_spec_l20Num A hA b_Valid (by first | assumption | (unfold i64 at *; omega))⟩
  refine dops_callV rfl rfl (by cbv) (by cbv) hc5 (.inr rfl) ?_
  obtain ⟨s6, hs6⟩ : ∃ s : ByteArray, s = s3 ++ v15_4 := ⟨_, rfl⟩
  have zs6 : ByteArray.size s6 = ByteArray.size s3 + ByteArray.size v15_4 := by rw [hs6]; exact ByteArray.size_append
  have bs6 : ByteArray.size s3 + ByteArray.size v15_4 ≤ 140737488355328 := by
    have jv15_4 := congrArg ByteArray.size hv15_4
    try simp only [slen_eq hA, lb_Mails_r] at jv15_4
    omega
  refine dops_step rfl rfl rfl (str_add rfl rfl rfl hs6 bs6) ?_
  obtain ⟨s7, hs7⟩ : ∃ s : ByteArray, s = s6 ++ (ByteArray.mk #[32]) := ⟨_, rfl⟩
  have zs7 : ByteArray.size s7 = ByteArray.size s6 + ByteArray.size (ByteArray.mk #[32]) := by rw [hs7]; exact ByteArray.size_append
  have bs7 : ByteArray.size s6 + ByteArray.size (ByteArray.mk #[32]) ≤ 140737488355328 := by
    have jv15_4 := congrArg ByteArray.size hv15_4
    try simp only [slen_eq hA, lb_Mails_r] at jv15_4
    omega
  refine dops_step rfl rfl rfl (str_add rfl rfl rfl hs7 bs7) ?_
  refine run_dops hA 2 _ _ _ _ (by cbv) ?_
  obtain ⟨v20_8, hv20_8, hc9⟩ : ∃ (v20_8 : ByteArray), v20_8 = (figB b_Next) ∧ Real Tryd.prog 16 [.int .i64 b_Next] (.str v20_8) := ⟨_, rfl, by exact r_spec_l20Num A hA b_Next (by first | assumption | (unfold i64 at *; omega))⟩
  refine dops_callV rfl rfl (by cbv) (by cbv) hc9 (.inr rfl) ?_
  obtain ⟨s10, hs10⟩ : ∃ s : ByteArray, s = s7 ++ v20_8 := ⟨_, rfl⟩
  have zs10 : ByteArray.size s10 = ByteArray.size s7 + ByteArray.size v20_8 := by rw [hs10]; exact ByteArray.size_append
  have bs10 : ByteArray.size s7 + ByteArray.size v20_8 ≤ 140737488355328 := by
    have jv15_4 := congrArg ByteArray.size hv15_4
    try simp only [slen_eq hA, lb_Mails_r] at jv15_4
    have jv20_8 := congrArg ByteArray.size hv20_8
    try simp only [slen_eq hA, lb_Mails_r] at jv20_8
    omega
  refine dops_step rfl rfl rfl (str_add rfl rfl rfl hs10 bs10) ?_
  obtain ⟨s11, hs11⟩ : ∃ s : ByteArray, s = s10 ++ (ByteArray.mk #[32]) := ⟨_, rfl⟩
  have zs11 : ByteArray.size s11 = ByteArray.size s10 + ByteArray.size (ByteArray.mk #[32]) := by rw [hs11]; exact ByteArray.size_append
  have bs11 : ByteArray.size s10 + ByteArray.size (ByteArray.mk #[32]) ≤ 140737488355328 := by
    have jv15_4 := congrArg ByteArray.size hv15_4
    try simp only [slen_eq hA, lb_Mails_r] at jv15_4
    have jv20_8 := congrArg ByteArray.size hv20_8
    try simp only [slen_eq hA, lb_Mails_r] at jv20_8
    omega
  refine dops_step rfl rfl rfl (str_add rfl rfl rfl hs11 bs11) ?_
  refine run_dops hA 3 _ _ _ _ (by cbv) ?_
  obtain ⟨v26_12, hv26_12, hc13⟩ : ∃ (v26_12 : ByteArray), v26_12 = (itoaB (A.rlen b_Mails_r)) ∧ Real Tryd.prog 17 [.int .i64 (A.rlen b_Mails_r)] (.str v26_12) := ⟨_, rfl, by exact r_spec_Decimal A hA (A.rlen b_Mails_r) (by unfold i64 at *; omega)⟩
  refine dops_callV rfl rfl (by cbv) (by cbv) hc13 (.inr rfl) ?_
  obtain ⟨s14, hs14⟩ : ∃ s : ByteArray, s = s11 ++ v26_12 := ⟨_, rfl⟩
  have zs14 : ByteArray.size s14 = ByteArray.size s11 + ByteArray.size v26_12 := by rw [hs14]; exact ByteArray.size_append
  have bs14 : ByteArray.size s11 + ByteArray.size v26_12 ≤ 140737488355328 := by
    have jv15_4 := congrArg ByteArray.size hv15_4
    try simp only [slen_eq hA, lb_Mails_r] at jv15_4
    have jv20_8 := congrArg ByteArray.size hv20_8
    try simp only [slen_eq hA, lb_Mails_r] at jv20_8
    have jv26_12 := congrArg ByteArray.size hv26_12
    try simp only [slen_eq hA, lb_Mails_r] at jv26_12
    omega
  refine dops_step rfl rfl rfl (str_add rfl rfl rfl hs14 bs14) ?_
  obtain ⟨s15, hs15⟩ : ∃ s : ByteArray, s = s14 ++ (ByteArray.mk #[10]) := ⟨_, rfl⟩
  have zs15 : ByteArray.size s15 = ByteArray.size s14 + ByteArray.size (ByteArray.mk #[10]) := by rw [hs15]; exact ByteArray.size_append
  have bs15 : ByteArray.size s14 + ByteArray.size (ByteArray.mk #[10]) ≤ 140737488355328 := by
    have jv15_4 := congrArg ByteArray.size hv15_4
    try simp only [slen_eq hA, lb_Mails_r] at jv15_4
    have jv20_8 := congrArg ByteArray.size hv20_8
    try simp only [slen_eq hA, lb_Mails_r] at jv20_8
    have jv26_12 := congrArg ByteArray.size hv26_12
    try simp only [slen_eq hA, lb_Mails_r] at jv26_12
    omega
  refine dops_step rfl rfl rfl (str_add rfl rfl rfl hs15 bs15) ?_
  refine run_dops hA 1 _ _ _ _ (by cbv) ?_
  refine dops_done ?_
  refine go_seq ?_
  refine go_seq ?_
  refine go_reg ?_
  refine run_aops hA 1 _ _ _ _ (by cbv) ?_
  refine ops_done ?_
  refine go_block ?_
  refine go_loopE (fun σ m => ∃ (i : Nat) (n : Int) (S : ByteArray), σ = (S6_1 S n b_Valid b_User b_Name b_Next b_Mails_r) ∧ (n = (i : Int) ∧ i ≤ List.length b_Mails ∧ S = catM (headT b_User b_Name b_Valid b_Next (List.length b_Mails : Int)) (b_Mails.take i)) ∧ m = List.length b_Mails - i) _ [.up 1] [1, 3, 4] [1] (S6_1 s15 0 b_Valid b_User b_Name b_Next b_Mails_r) rfl (by cbv) ⟨0, 0, s15, rfl, ?_, rfl⟩ (fun σ m hI => ?_)
  · skip
    refine ⟨rfl, Nat.zero_le _, ?_⟩
    show _ = headT b_User b_Name b_Valid b_Next (List.length b_Mails : Int)
    simp only [hs15, hs14, hs11, hs10, hs7, hs6, hs3, hs2, hs1, hv15_4, hv20_8, hv26_12, slen_eq hA, lb_Mails_r]
    rfl
  obtain ⟨i, n, S, rfl, ⟨hn, hi, hS⟩, rfl⟩ := hI
  have hSz : ByteArray.size S ≤ 200000000 := by
    have := catM_size (h := S) (b_Mails.take i) (fun m hm => hmm m (List.mem_of_mem_take hm)) (headT b_User b_Name b_Valid b_Next (List.length b_Mails : Int))
    rw [← hS, List.length_take] at this
    omega
  refine go_seq ?_
  refine go_seq ?_
  refine go_reg ?_
  refine run_aops hA 5 _ _ _ _ (by cbv) ?_
  refine ops_done ?_
  refine go_cond rfl (fun c16 => ?_) (fun c16 => ?_)
  · skip
    have ec16 : n < (A.rlen b_Mails_r) := lss_t hA c16
    refine go_skip ?_
    refine go_seq ?_
    refine go_block ?_
    refine go_seq ?_
    refine go_reg ?_
    refine run_aops hA 3 _ _ _ _ (by cbv) ?_
    have h0x17 : (0 : Int) ≤ n := by
      omega
    have hlx17 : (Int.toNat n) < List.length b_Mails := by
      omega
    obtain ⟨x17, hx17⟩ : ∃ x, (b_Mails)[(Int.toNat n)]? = some x := ⟨_, List.getElem?_eq_getElem hlx17⟩
    have hmx17 := List.mem_of_getElem? hx17
    obtain ⟨x17_Uid, x17_Flags, x17_Text⟩ := x17
    have hrx17 : b_Mails_r[(Int.toNat n)]? = some [.int .i64 x17_Uid, .int .i64 x17_Flags, .str x17_Text] := by
      exact map_at eMail hb_Mails_r hx17
    have hix17 := hx17
    rw [hn] at hix17
    have hix17 : (b_Mails)[i]? = some (⟨x17_Uid, x17_Flags, x17_Text⟩ : GMail) := hix17
    have hgx17 : i64 x17_Uid ∧ i64 x17_Flags := (hmm _ hmx17).1
    obtain ⟨hgux17, hgfx17⟩ := hgx17
    have htx17 : ByteArray.size x17_Text ≤ 1048576 := (hmm _ hmx17).2
    have zlx17 := slen_eq hA x17_Text
    have hfux17 := figB_size _ hgux17
    have hffx17 := flagW_size x17_Flags
    have htlx17 := itoaB_size (ByteArray.size x17_Text : Int) (by unfold i64; omega)
    have htfx17 := figB_size (ByteArray.size x17_Text : Int) (by unfold i64; omega)
    refine ops_step rfl rfl (idx_sl rfl rfl rfl rfl rfl h0x17 rfl hrx17) ?_
    refine run_aops hA 3 _ _ _ _ (by cbv) ?_
    refine ops_done ?_
    refine go_draw (by cbv) ?_
    refine run_dops hA 1 _ _ _ _ (by cbv) ?_
    obtain ⟨s18, hs18⟩ : ∃ s : ByteArray, s = S ++ (ByteArray.mk #[32]) := ⟨_, rfl⟩
    have zs18 : ByteArray.size s18 = ByteArray.size S + ByteArray.size (ByteArray.mk #[32]) := by rw [hs18]; exact ByteArray.size_append
    have bs18 : ByteArray.size S + ByteArray.size (ByteArray.mk #[32]) ≤ 140737488355328 := by
      have jv15_4 := congrArg ByteArray.size hv15_4
      try simp only [slen_eq hA, lb_Mails_r] at jv15_4
      have jv20_8 := congrArg ByteArray.size hv20_8
      try simp only [slen_eq hA, lb_Mails_r] at jv20_8
      have jv26_12 := congrArg ByteArray.size hv26_12
      try simp only [slen_eq hA, lb_Mails_r] at jv26_12
      omega
    refine dops_step rfl rfl rfl (str_add rfl rfl rfl hs18 bs18) ?_
    refine run_dops hA 2 _ _ _ _ (by cbv) ?_
    obtain ⟨v45_19, hv45_19, hc20⟩ : ∃ (v45_19 : ByteArray), v45_19 = (figB x17_Uid) ∧ Real Tryd.prog 16 [.int .i64 x17_Uid] (.str v45_19) := ⟨_, rfl, by exact r_spec_l20Num A hA x17_Uid (by first | assumption | (unfold i64 at *; omega))⟩
    refine dops_callV rfl rfl (by cbv) (by cbv) hc20 (.inr rfl) ?_
    obtain ⟨s21, hs21⟩ : ∃ s : ByteArray, s = s18 ++ v45_19 := ⟨_, rfl⟩
    have zs21 : ByteArray.size s21 = ByteArray.size s18 + ByteArray.size v45_19 := by rw [hs21]; exact ByteArray.size_append
    have bs21 : ByteArray.size s18 + ByteArray.size v45_19 ≤ 140737488355328 := by
      have jv15_4 := congrArg ByteArray.size hv15_4
      try simp only [slen_eq hA, lb_Mails_r] at jv15_4
      have jv20_8 := congrArg ByteArray.size hv20_8
      try simp only [slen_eq hA, lb_Mails_r] at jv20_8
      have jv26_12 := congrArg ByteArray.size hv26_12
      try simp only [slen_eq hA, lb_Mails_r] at jv26_12
      have jv45_19 := congrArg ByteArray.size hv45_19
      try simp only [slen_eq hA, lb_Mails_r] at jv45_19
      omega
    refine dops_step rfl rfl rfl (str_add rfl rfl rfl hs21 bs21) ?_
    obtain ⟨s22, hs22⟩ : ∃ s : ByteArray, s = s21 ++ (ByteArray.mk #[32]) := ⟨_, rfl⟩
    have zs22 : ByteArray.size s22 = ByteArray.size s21 + ByteArray.size (ByteArray.mk #[32]) := by rw [hs22]; exact ByteArray.size_append
    have bs22 : ByteArray.size s21 + ByteArray.size (ByteArray.mk #[32]) ≤ 140737488355328 := by
      have jv15_4 := congrArg ByteArray.size hv15_4
      try simp only [slen_eq hA, lb_Mails_r] at jv15_4
      have jv20_8 := congrArg ByteArray.size hv20_8
      try simp only [slen_eq hA, lb_Mails_r] at jv20_8
      have jv26_12 := congrArg ByteArray.size hv26_12
      try simp only [slen_eq hA, lb_Mails_r] at jv26_12
      have jv45_19 := congrArg ByteArray.size hv45_19
      try simp only [slen_eq hA, lb_Mails_r] at jv45_19
      omega
    refine dops_step rfl rfl rfl (str_add rfl rfl rfl hs22 bs22) ?_
    refine run_dops hA 2 _ _ _ _ (by cbv) ?_
    obtain ⟨v50_23, hv50_23, hc24⟩ : ∃ (v50_23 : ByteArray), v50_23 = (flagW x17_Flags) ∧ Real Tryd.prog 18 [.int .i64 x17_Flags] (.str v50_23) := ⟨_, rfl, by exact r_spec_FlagWords A hA x17_Flags (by assumption)⟩
    refine dops_callV rfl rfl (by cbv) (by cbv) hc24 (.inr rfl) ?_
    obtain ⟨s25, hs25⟩ : ∃ s : ByteArray, s = s22 ++ v50_23 := ⟨_, rfl⟩
    have zs25 : ByteArray.size s25 = ByteArray.size s22 + ByteArray.size v50_23 := by rw [hs25]; exact ByteArray.size_append
    have bs25 : ByteArray.size s22 + ByteArray.size v50_23 ≤ 140737488355328 := by
      have jv15_4 := congrArg ByteArray.size hv15_4
      try simp only [slen_eq hA, lb_Mails_r] at jv15_4
      have jv20_8 := congrArg ByteArray.size hv20_8
      try simp only [slen_eq hA, lb_Mails_r] at jv20_8
      have jv26_12 := congrArg ByteArray.size hv26_12
      try simp only [slen_eq hA, lb_Mails_r] at jv26_12
      have jv45_19 := congrArg ByteArray.size hv45_19
      try simp only [slen_eq hA, lb_Mails_r] at jv45_19
      have jv50_23 := congrArg ByteArray.size hv50_23
      try simp only [slen_eq hA, lb_Mails_r] at jv50_23
      omega
    refine dops_step rfl rfl rfl (str_add rfl rfl rfl hs25 bs25) ?_
    obtain ⟨s26, hs26⟩ : ∃ s : ByteArray, s = s25 ++ (ByteArray.mk #[32]) := ⟨_, rfl⟩
    have zs26 : ByteArray.size s26 = ByteArray.size s25 + ByteArray.size (ByteArray.mk #[32]) := by rw [hs26]; exact ByteArray.size_append
    have bs26 : ByteArray.size s25 + ByteArray.size (ByteArray.mk #[32]) ≤ 140737488355328 := by
      have jv15_4 := congrArg ByteArray.size hv15_4
      try simp only [slen_eq hA, lb_Mails_r] at jv15_4
      have jv20_8 := congrArg ByteArray.size hv20_8
      try simp only [slen_eq hA, lb_Mails_r] at jv20_8
      have jv26_12 := congrArg ByteArray.size hv26_12
      try simp only [slen_eq hA, lb_Mails_r] at jv26_12
      have jv45_19 := congrArg ByteArray.size hv45_19
      try simp only [slen_eq hA, lb_Mails_r] at jv45_19
      have jv50_23 := congrArg ByteArray.size hv50_23
      try simp only [slen_eq hA, lb_Mails_r] at jv50_23
      omega
    refine dops_step rfl rfl rfl (str_add rfl rfl rfl hs26 bs26) ?_
    refine run_dops hA 3 _ _ _ _ (by cbv) ?_
    obtain ⟨v56_27, hv56_27, hc28⟩ : ∃ (v56_27 : ByteArray), v56_27 = (itoaB (A.slen x17_Text)) ∧ Real Tryd.prog 17 [.int .i64 (A.slen x17_Text)] (.str v56_27) := ⟨_, rfl, by exact r_spec_Decimal A hA (A.slen x17_Text) (by unfold i64 at *; omega)⟩
    refine dops_callV rfl rfl (by cbv) (by cbv) hc28 (.inr rfl) ?_
    obtain ⟨s29, hs29⟩ : ∃ s : ByteArray, s = s26 ++ v56_27 := ⟨_, rfl⟩
    have zs29 : ByteArray.size s29 = ByteArray.size s26 + ByteArray.size v56_27 := by rw [hs29]; exact ByteArray.size_append
    have bs29 : ByteArray.size s26 + ByteArray.size v56_27 ≤ 140737488355328 := by
      have jv15_4 := congrArg ByteArray.size hv15_4
      try simp only [slen_eq hA, lb_Mails_r] at jv15_4
      have jv20_8 := congrArg ByteArray.size hv20_8
      try simp only [slen_eq hA, lb_Mails_r] at jv20_8
      have jv26_12 := congrArg ByteArray.size hv26_12
      try simp only [slen_eq hA, lb_Mails_r] at jv26_12
      have jv45_19 := congrArg ByteArray.size hv45_19
      try simp only [slen_eq hA, lb_Mails_r] at jv45_19
      have jv50_23 := congrArg ByteArray.size hv50_23
      try simp only [slen_eq hA, lb_Mails_r] at jv50_23
      have jv56_27 := congrArg ByteArray.size hv56_27
      try simp only [slen_eq hA, lb_Mails_r] at jv56_27
      omega
    refine dops_step rfl rfl rfl (str_add rfl rfl rfl hs29 bs29) ?_
    obtain ⟨s30, hs30⟩ : ∃ s : ByteArray, s = s29 ++ (ByteArray.mk #[10]) := ⟨_, rfl⟩
    have zs30 : ByteArray.size s30 = ByteArray.size s29 + ByteArray.size (ByteArray.mk #[10]) := by rw [hs30]; exact ByteArray.size_append
    have bs30 : ByteArray.size s29 + ByteArray.size (ByteArray.mk #[10]) ≤ 140737488355328 := by
      have jv15_4 := congrArg ByteArray.size hv15_4
      try simp only [slen_eq hA, lb_Mails_r] at jv15_4
      have jv20_8 := congrArg ByteArray.size hv20_8
      try simp only [slen_eq hA, lb_Mails_r] at jv20_8
      have jv26_12 := congrArg ByteArray.size hv26_12
      try simp only [slen_eq hA, lb_Mails_r] at jv26_12
      have jv45_19 := congrArg ByteArray.size hv45_19
      try simp only [slen_eq hA, lb_Mails_r] at jv45_19
      have jv50_23 := congrArg ByteArray.size hv50_23
      try simp only [slen_eq hA, lb_Mails_r] at jv50_23
      have jv56_27 := congrArg ByteArray.size hv56_27
      try simp only [slen_eq hA, lb_Mails_r] at jv56_27
      omega
    refine dops_step rfl rfl rfl (str_add rfl rfl rfl hs30 bs30) ?_
    refine run_dops hA 1 _ _ _ _ (by cbv) ?_
    refine dops_done ?_
    refine go_reg ?_
    refine run_aops hA 3 _ _ _ _ (by cbv) ?_
    refine ops_done ?_
    refine ⟨(S6_1 s30 (A.num .add .i64 n 1) b_Valid b_User b_Name b_Next b_Mails_r), List.length b_Mails - (i + 1), ?_, by cbv, i + 1, (A.num .add .i64 n 1), s30, rfl, ?_, rfl⟩
    · skip
      omega
    · skip
      refine ⟨by rw [add_i64 hA (by omega) (by omega)]; omega, by omega, ?_⟩
      rw [catM_at hix17, ← hS]
      simp only [hs30, hs29, hs26, hs25, hs22, hs21, hs18, hs15, hs14, hs11, hs10, hs7, hs6, hs3, hs2, hs1, hv15_4, hv20_8, hv26_12, hv45_19, hv50_23, hv56_27, zlx17]
      simp only [mailT, spB, nlB, ByteArray.append_assoc]
  · skip
    have ec16 : (A.rlen b_Mails_r) ≤ n := lss_f hA c16
    refine go_exit ⟨fun _ => ?_, fun h => absurd rfl h⟩
    refine go_seq ?_
    refine go_reg ?_
    refine run_aops hA 2 _ _ _ _ (by cbv) ?_
    refine ops_done ?_
    refine go_ret ⟨_, by cbv, ?_⟩
    show _ = (PV.str S)
    refine congrArg PV.str ?_
    rw [hS, List.take_of_length_le (by omega)]; rfl
end Go.Av

/- Walks: the reference on what items tell. -/
import Derived.Test.YtjbokkoiicoahaaGreatJ8
namespace Go.Av
open Go Go.Proofs
set_option maxRecDepth 100000
set_option maxHeartbeats 4000000
set_option linter.unusedVariables false
set_option linter.unusedSimpArgs false
theorem insF_at {q : GRec → Bool} {f : GRec → Int} {xs : List GItem} {i : Nat} {x : GItem} (h : xs[i]? = some x) : insF q f (xs.take (i + 1)) = if q x.Rec = true then insS (insF q f (xs.take i)) (f x.Rec) else insF q f (xs.take i) := by
 rw [List.take_add_one, h]; simp [insF, insStep, List.foldl_append]
theorem insS_len (zs : List Int) (x : Int) : (insS zs x).length ≤ zs.length + 1 := by
 have main : ∀ zs : List Int, (zs.filter fun y => decide (y < x)).length + (zs.filter fun y => decide (x < y)).length ≤ zs.length := by
  intro zs
  induction zs with
  | nil => simp
  | cons z zs ih =>
   simp only [List.filter_cons, List.length_cons]
   by_cases h1 : z < x
   ·rw [if_pos (decide_eq_true h1), if_neg (by simp; omega)]
    simp only [List.length_cons]; omega
   by_cases h2 : x < z
   ·rw [if_neg (by simpa using h1), if_pos (decide_eq_true h2)]
    simp only [List.length_cons]; omega
   rw [if_neg (by simpa using h1), if_neg (by simpa using h2)]
   omega
 have := main zs
 unfold insS
 rw [List.length_append, List.length_append]
 simp only [List.length_cons, List.length_nil]; omega
theorem insF_len (q : GRec → Bool) (f : GRec → Int) (xs : List GItem) : (insF q f xs).length ≤ xs.length := by
 have main : ∀ (xs : List GItem) (s : List Int), (xs.foldl (insStep q f) s).length ≤ s.length + xs.length := by
  intro xs
  induction xs with
  | nil => intro s; simp
  | cons x xs ih =>
   intro s
   have h1 := ih (insStep q f s x)
   have h2 : (insStep q f s x).length ≤ s.length + 1 := by
    unfold insStep; split
    ·exact insS_len s _
    omega
   rw [List.foldl_cons, List.length_cons]; omega
 have := main xs []
 simpa [insF] using this
theorem insF_lt (q : GRec → Bool) (f : GRec → Int) (xs : List GItem) (i : Nat) : (insF q f (xs.take i)).length ≤ xs.length := by
 have h1 := insF_len q f (xs.take i)
 rw [List.length_take] at h1; omega
theorem map_tk {β : Type} {f : Int → β} {us : List Int} {i : Nat} {u : Int} (h : us[i]? = some u) : (us.take (i + 1)).map f = (us.take i).map f ++ [f u] := by
 rw [List.take_add_one, h]; simp
def S130_1 (p0 : RR) (p1 : Int) (p2 : Int) (p3 : RR) : St := { sl := [.sl 9 p0, .ii p1, .bad, .bad, .bad, .own 17, .ii p2, .bad, .bad, .bad, .bad, .bad, .bad, .bad, .bad, .bad, .bad, .bad, .bad, .bad, .bad, .bad, .bad, .bad, .bad, .bad, .bad, .bad, .bad, .bad, .bad, .bad, .bad, .bad, .bad, .bad, .bad, .bad, .bad, .bad, .bad, .bad, .bad, .bad, .bad, .bad, .bad, .bad, .bad, .bad, .bad, .bad, .bad, .bad, .bad, .bad, .bad, .bad, .bad, .bad, .bad, .bad, .bad, .bad, .bad, .bad, .bad, .bad, .bad, .bad, .bad, .bad, .bad, .bad, .bad, .bad, .bad, .bad, .bad, .bad, .bad, .bad, .bad, .bad, .bad, .bad, .bad, .bad, .bad, .bad, .bad, .bad, .bad, .bad, .bad, .bad, .bad, .bad, .bad, .bad, .bad, .bad], bl := [(17, ⟨.arr, 1, p3⟩)] }
def S130_2 (p0 : RR) (p1 : Int) (p2 : Int) (p3 : RR) (p4 : RR) : St := { sl := [.sl 9 p0, .ii p1, .bad, .bad, .bad, .own 17, .bad, .bad, .bad, .bad, .own 54, .ii p2, .bad, .bad, .bad, .bad, .bad, .bad, .bad, .bad, .bad, .bad, .bad, .bad, .bad, .bad, .bad, .bad, .bad, .bad, .bad, .bad, .bad, .bad, .bad, .bad, .bad, .bad, .bad, .bad, .bad, .bad, .bad, .bad, .bad, .bad, .bad, .bad, .bad, .bad, .bad, .bad, .bad, .bad, .bad, .bad, .bad, .bad, .bad, .bad, .bad, .bad, .bad, .bad, .bad, .bad, .bad, .bad, .bad, .bad, .bad, .bad, .bad, .bad, .bad, .bad, .bad, .bad, .bad, .bad, .bad, .bad, .bad, .bad, .bad, .bad, .bad, .bad, .bad, .bad, .bad, .bad, .bad, .bad, .bad, .bad, .bad, .bad, .bad, .bad, .bad, .bad], bl := [(17, ⟨.arr, 1, p3⟩), (54, ⟨.arr, 3, p4⟩)] }
theorem r_spec_l07Mails (A : Alg) (hA : A = std) (xs : List GItem) (v : Int) (hx : List.length xs ≤ 1048576) : Real Tryz.prog 130 [.sl 9 (List.map eItem xs), .ii v] (.ow 3 (List.map eoMail (mailsR v xs))) := by
 obtain ⟨b3, i5⟩ := nm (xs.map eItem)
 have z2 := rlen_map hA i5
 refine real_args (args' := [.sl 9 b3, .ii v]) (by subst i5; rfl) ?_
 refine real tyOk Tryz.func130 (by kernel_rfl) (afun_of rfl ?_)
 refine gx hA 1 ?_
 refine gx hA 2 ?_
 refine gs (gx hA 1 ?_)
 refine go_block ?_
 refine go_loopE (fun σ m => ∃ (i : Nat) (n : Int) (R : RR), σ = (S130_1 b3 v n R) ∧ (n = (i : Int) ∧ i ≤ List.length xs ∧ R = List.map eInt (insF (uidQ v xs) GRec.Uid (xs.take i))) ∧ m = List.length xs - i) _ [.up 17] [0, 1, 5, 6] [17] (S130_1 b3 v 0 ([])) rfl (by cbv) ⟨0, 0, [], rfl, ?_, rfl⟩ (fun σ m hI => ?_)
 ·
  exact ⟨rfl, Nat.zero_le _, rfl⟩
 obtain ⟨i, n, R, rfl, ⟨hn, hi, hR⟩, rfl⟩ := hI
 have hul := insF_lt (uidQ v xs) GRec.Uid xs i
 have lR := rlen_map hA hR
 refine gs (gx hA 4 ?_)
 refine go_cond rfl (fun c1 => ?_) (fun c1 => ?_)
 ·
  have ec1 : n < (A.rlen b3) := lss_t hA c1
  refine gk (gs ?_)
  refine go_block ?_
  refine gs (gr (rn hA 2 ?_))
  have B7 : (0 : Int) ≤ n := by
   omega
  have B8 : (Int.toNat n) < List.length xs := by
   omega
  obtain ⟨x2, hx2⟩ : ∃ x, (xs)[(Int.toNat n)]? = some x := ⟨_, List.getElem?_eq_getElem B8⟩
  have D0 := List.mem_of_getElem? hx2
  obtain ⟨p8, ⟨g9, f7, d1, i7, i3, j0, i9, i8⟩⟩ := x2
  have C0 : b3[(Int.toNat n)]? = some [.ii p8, .ii g9, .ii f7, .ii d1, .ii i7, .ii i3, .str j0, .str i9, .str i8] := by
   exact map_at eItem i5 hx2
  have r1 := hx2
  rw [hn] at r1
  have r1 : (xs)[i]? = some (⟨p8, ⟨g9, f7, d1, i7, i3, j0, i9, i8⟩⟩ : GItem) := r1
  refine ops_step rfl rfl (idx_sl rfl rfl rfl rfl rfl B7 rfl C0) ?_
  refine rz hA 4 ?_
  refine gs (gr (rn hA 4 ?_))
  obtain ⟨p5, l1, k1, m1, l2, j4, l7, l5, l6, p7, y2, w3, v4, w9, w7, v7, w2, w8, w1, q0, hc4⟩ : ∃ (p5 : Int) (l1 : Int) (k1 : Int) (m1 : Int) (l2 : Int) (j4 : Int) (l7 : ByteArray) (l5 : ByteArray) (l6 : ByteArray) (p7 : Bool), p5 = ((Option.getD (lat (mailIs 5 v d1) bySeqB xs) zItem).Seq) ∧ l1 = (((Option.getD (lat (mailIs 5 v d1) bySeqB xs) zItem).Rec).Kind) ∧ k1 = (((Option.getD (lat (mailIs 5 v d1) bySeqB xs) zItem).Rec).Valid) ∧ m1 = (((Option.getD (lat (mailIs 5 v d1) bySeqB xs) zItem).Rec).Uid) ∧ l2 = (((Option.getD (lat (mailIs 5 v d1) bySeqB xs) zItem).Rec).Next) ∧ j4 = (((Option.getD (lat (mailIs 5 v d1) bySeqB xs) zItem).Rec).Flags) ∧ l7 = (((Option.getD (lat (mailIs 5 v d1) bySeqB xs) zItem).Rec).User) ∧ l5 = (((Option.getD (lat (mailIs 5 v d1) bySeqB xs) zItem).Rec).Name) ∧ l6 = (((Option.getD (lat (mailIs 5 v d1) bySeqB xs) zItem).Rec).Text) ∧ p7 = (Option.isSome (lat (mailIs 5 v d1) bySeqB xs)) ∧ Real Tryz.prog 126 [.sl 9 b3, .ii 5, .ii v, .ii d1] (.tup [.agg [.ii p5, .ii l1, .ii k1, .ii m1, .ii l2, .ii j4, .str l7, .str l5, .str l6], .bool p7]) := ⟨_, _, _, _, _, _, _, _, _, _, rfl, rfl, rfl, rfl, rfl, rfl, rfl, rfl, rfl, rfl, by subst i5; exact r_spec_l07Best A hA xs 5 v d1 (by omega)⟩
  refine ops_callV rfl rfl (by cbv) (by cbv) hc4 (.inr rfl) (by cbv) ?_
  refine rz hA 6 ?_
  refine gs (gr (rn hA 4 ?_))
  refine ops_split 40 rfl (fun c5 => ?_) (fun c5 => ?_)
  ·
   have ec5 : g9 = 3 := eql_t hA c5
   refine rn hA 6 ?_
   refine ops_split 46 rfl (fun c6 => ?_) (fun c6 => ?_)
   ·
    have ec6 : f7 = v := eql_t hA c6
    refine rz hA 3 ?_
    refine go_cond rfl (fun c7 => ?_) (fun c7 => ?_)
    ·
     have c8 : p7 = false := bnot_t hA c7
     refine gB (rn hA 3 ?_)
     obtain ⟨s3, t7, B4⟩ : ∃ (s3 : RR), s3 = List.map eInt (insS (insF (uidQ v xs) GRec.Uid (xs.take i)) d1) ∧ Real Tryz.prog 127 [.sl 1 (eraseR R), .ii d1] (.ow 1 s3) := ⟨_, rfl, by subst hR; simp only [erR_Int]; exact r_spec_l07Sorted A hA (insF (uidQ v xs) GRec.Uid (xs.take i)) d1 (by omega)⟩
     have C3 := rlen_map hA t7
     refine ops_callV rfl rfl (by cbv) (by cbv) B4 (.inl (by simp only [fresh, freshL, t7, frR_Int, and_self])) (by cbv) ?_
     refine rn hA 1 ?_
     refine ops_doneB (tw := [.drop 17, .ren 53 17, .up 17, .up 8, .up 7]) (by cbv) ?_
     refine gy hA 3 ?_
     refine ⟨(S130_1 b3 v (A.num .add .i64 n 1) s3), List.length xs - (i + 1), ?_, by cbv, i + 1, (A.num .add .i64 n 1), s3, rfl, ?_, rfl⟩
     ·
      omega
     have hQ : (uidQ v xs) (GItem.Rec (⟨p8, ⟨g9, f7, d1, i7, i3, j0, i9, i8⟩⟩ : GItem)) = true := by
      unfold uidQ
      simp [kindIs, ← q0, ec1, ec5, ec6, c8]
     refine ⟨by rw [add_i64 hA (by omega) (by omega)]; omega, by omega, ?_⟩
     rw [insF_at r1, if_pos (by rw [hQ])]
     exact t7
    have c11 : p7 = true := bnot_f hA c7
    refine gk (gy hA 3 ?_)
    refine ⟨(S130_1 b3 v (A.num .add .i64 n 1) R), List.length xs - (i + 1), ?_, by cbv, i + 1, (A.num .add .i64 n 1), R, rfl, ?_, rfl⟩
    ·
     omega
    have hQ : (uidQ v xs) (GItem.Rec (⟨p8, ⟨g9, f7, d1, i7, i3, j0, i9, i8⟩⟩ : GItem)) = false := by
     unfold uidQ
     simp [kindIs, ← q0, ec1, ec5, ec6, c11]
    refine ⟨by rw [add_i64 hA (by omega) (by omega)]; omega, by omega, ?_⟩
    rw [insF_at r1, if_neg (by rw [hQ]; decide)]
    exact hR
   have ec6 : f7 ≠ v := eql_f hA c6
   refine rz hA 3 ?_
   refine go_cond rfl (fun c12 => ?_) (fun c12 => ?_)
   ·
    exact no_t c12 (show false = false from by rfl)
   refine gk (gy hA 3 ?_)
   refine ⟨(S130_1 b3 v (A.num .add .i64 n 1) R), List.length xs - (i + 1), ?_, by cbv, i + 1, (A.num .add .i64 n 1), R, rfl, ?_, rfl⟩
   ·
    omega
   have hQ : (uidQ v xs) (GItem.Rec (⟨p8, ⟨g9, f7, d1, i7, i3, j0, i9, i8⟩⟩ : GItem)) = false := by
    unfold uidQ
    simp [kindIs, ← q0, ec1, ec5, ec6, ec6.symm]
   refine ⟨by rw [add_i64 hA (by omega) (by omega)]; omega, by omega, ?_⟩
   rw [insF_at r1, if_neg (by rw [hQ]; decide)]
   exact hR
  have ec5 : g9 ≠ 3 := eql_f hA c5
  refine rz hA 9 ?_
  refine go_cond rfl (fun c13 => ?_) (fun c13 => ?_)
  ·
   exact no_t c13 (show false = false from by rfl)
  refine gk (gy hA 3 ?_)
  refine ⟨(S130_1 b3 v (A.num .add .i64 n 1) R), List.length xs - (i + 1), ?_, by cbv, i + 1, (A.num .add .i64 n 1), R, rfl, ?_, rfl⟩
  ·
   omega
  have hQ : (uidQ v xs) (GItem.Rec (⟨p8, ⟨g9, f7, d1, i7, i3, j0, i9, i8⟩⟩ : GItem)) = false := by
   unfold uidQ
   simp [kindIs, ← q0, ec1, ec5, ec5.symm]
  refine ⟨by rw [add_i64 hA (by omega) (by omega)]; omega, by omega, ?_⟩
  rw [insF_at r1, if_neg (by rw [hQ]; decide)]
  exact hR
 have ec1 : (A.rlen b3) ≤ n := lss_f hA c1
 refine go_exit ⟨fun _ => ?_, fun h => absurd rfl h⟩
 refine gx hA 2 ?_
 refine gs (gx hA 1 ?_)
 refine go_block ?_
 refine go_loopE (fun σ m => ∃ (k : Nat) (n2 : Int) (R2 : RR), σ = (S130_2 b3 v n2 R R2) ∧ (n2 = (k : Int) ∧ k ≤ List.length (insF (uidQ v xs) GRec.Uid (xs.take i)) ∧ R2 = List.map eoMail (List.map (mailR v xs) (List.take k (insF (uidQ v xs) GRec.Uid (xs.take i))))) ∧ m = List.length (insF (uidQ v xs) GRec.Uid (xs.take i)) - k) _ [.up 54, .up 17] [0, 1, 5, 10, 11] [17, 54] (S130_2 b3 v 0 R ([])) rfl (by cbv) ⟨0, 0, [], rfl, ?_, rfl⟩ (fun σ m hI => ?_)
 ·
  exact ⟨rfl, Nat.zero_le _, rfl⟩
 obtain ⟨k, n2, R2, rfl, ⟨hk, hkl, hR2⟩, rfl⟩ := hI
 refine gs (gx hA 4 ?_)
 refine go_cond rfl (fun c14 => ?_) (fun c14 => ?_)
 ·
  have z7 : n2 < (A.rlen R) := lss_t hA c14
  refine gk (gs ?_)
  refine go_block ?_
  refine gs (gr (rn hA 4 ?_))
  have t5 : (0 : Int) ≤ n2 := by
   omega
  have z3 : (Int.toNat n2) < List.length (insF (uidQ v xs) GRec.Uid (xs.take i)) := by
   omega
  obtain ⟨x15, x0⟩ : ∃ x, (insF (uidQ v xs) GRec.Uid (xs.take i))[(Int.toNat n2)]? = some x := ⟨_, List.getElem?_eq_getElem z3⟩
  have C4 := List.mem_of_getElem? x0
  have t4 : R[(Int.toNat n2)]? = some [.ii x15] := by
   exact map_at eInt hR x0
  have s1 := x0
  rw [hk] at s1
  have s1 : (insF (uidQ v xs) GRec.Uid (xs.take i))[k]? = some x15 := s1
  have z0 : n2 < (List.length R : Int) := by
   rw [hR, List.length_map]; omega
  refine ops_step rfl rfl (idx_own rfl rfl rfl rfl rfl rfl t5 z0 rfl) ?_
  refine ops_step rfl rfl (ld_arr rfl rfl rfl rfl t4 rfl) ?_
  obtain ⟨c2, a7, a5, b0, a6, a1, a9, a8, a0, e7, q5, n1, m3, n8, n6, m2, m7, m6, n3, t1, B1⟩ : ∃ (c2 : Int) (a7 : Int) (a5 : Int) (b0 : Int) (a6 : Int) (a1 : Int) (a9 : ByteArray) (a8 : ByteArray) (a0 : ByteArray) (e7 : Bool), c2 = ((Option.getD (lat (mailIs 3 v x15) bySeqB xs) zItem).Seq) ∧ a7 = (((Option.getD (lat (mailIs 3 v x15) bySeqB xs) zItem).Rec).Kind) ∧ a5 = (((Option.getD (lat (mailIs 3 v x15) bySeqB xs) zItem).Rec).Valid) ∧ b0 = (((Option.getD (lat (mailIs 3 v x15) bySeqB xs) zItem).Rec).Uid) ∧ a6 = (((Option.getD (lat (mailIs 3 v x15) bySeqB xs) zItem).Rec).Next) ∧ a1 = (((Option.getD (lat (mailIs 3 v x15) bySeqB xs) zItem).Rec).Flags) ∧ a9 = (((Option.getD (lat (mailIs 3 v x15) bySeqB xs) zItem).Rec).User) ∧ a8 = (((Option.getD (lat (mailIs 3 v x15) bySeqB xs) zItem).Rec).Name) ∧ a0 = (((Option.getD (lat (mailIs 3 v x15) bySeqB xs) zItem).Rec).Text) ∧ e7 = (Option.isSome (lat (mailIs 3 v x15) bySeqB xs)) ∧ Real Tryz.prog 126 [.sl 9 b3, .ii 3, .ii v, .ii x15] (.tup [.agg [.ii c2, .ii a7, .ii a5, .ii b0, .ii a6, .ii a1, .str a9, .str a8, .str a0], .bool e7]) := ⟨_, _, _, _, _, _, _, _, _, _, rfl, rfl, rfl, rfl, rfl, rfl, rfl, rfl, rfl, rfl, by subst i5; exact r_spec_l07Best A hA xs 3 v x15 (by omega)⟩
  refine ops_callV rfl rfl (by cbv) (by cbv) B1 (.inr rfl) (by cbv) ?_
  refine rz hA 6 ?_
  refine gs ?_
  have s4 : n2 < (List.length R : Int) := by
   rw [hR, List.length_map]; omega
  refine go_drawE [0, 1, 2, 3, 4, 5, 6, 7, 8, 9, 10, 11, 12] (by cbv) rfl rfl ({ sl := [.sl 9 b3, .ii v, .bad, .bad, .bad, .own 17, .bad, .bad, .bad, .bad, .own 54, .ii n2, .pt 12 0 0, .bool e7, .pt 14 0 0, .bad, .bad, .bad, .bad, .bad, .bad, .bad, .bad, .bad, .bad, .bad, .bad, .bad, .bad, .bad, .bad, .bad, .bad, .bad, .bad, .bad, .bad, .bad, .bad, .bad, .bad, .bad, .bad, .bad, .bad, .bad, .bad, .bad, .bad, .bad, .bad, .bad, .bad, .bad, .bad, .ii n2, .own 17, .ii (A.rlen R), .bool (A.cmp .lss n2 (A.rlen R)), .bad, .bad, .tup [.agg [.ii c2, .ii a7, .ii a5, .ii b0, .ii a6, .ii a1, .str a9, .str a8, .str a0], .bool e7], .sl 9 b3, .ii v, .own 17, .ii n2, .pt 17 (Int.toNat n2) 0, .ii x15, .tup [.agg [.ii c2, .ii a7, .ii a5, .ii b0, .ii a6, .ii a1, .str a9, .str a8, .str a0], .bool e7], .agg [.ii c2, .ii a7, .ii a5, .ii b0, .ii a6, .ii a1, .str a9, .str a8, .str a0], .bool e7, .own 17, .ii n2, .pt 17 (Int.toNat n2) 0, .ii x15, .pt 12 0 1, .pt 12 0 5, .ii a1, .pt 12 0 1, .pt 12 0 8, .str a0, .agg [.ii x15, .ii a1, .str a0], .bad, .bad, .bad, .bad, .bad, .bad, .bad, .bad, .bad, .bad, .bad, .bad, .bad, .bad, .bad, .bad, .bad, .bad, .bad, .bad], bl := [(12, ⟨.var, 9, [[.ii c2, .ii a7, .ii a5, .ii b0, .ii a6, .ii a1, .str a9, .str a8, .str a0]]⟩), (14, ⟨.var, 3, [[.ii x15, .ii a1, .str a0]]⟩), (17, ⟨.arr, 1, R⟩), (54, ⟨.arr, 3, R2⟩)] } : St) (fun dR dK dhR dhF => ?_) ?_
  ·
   have x5 : ∀ (dn : Nat), cntF [true, true, true, true, true, true, true, true, true, true, true, true, true] = dn → dwp T ⟨Real Tryz.prog, RealM Tryz.prog, RealC Tryz.prog⟩ dR dK dn [true, true, true, true, true, true, true, true, true, true, true, true, true] ({ sl := [.sl 9 b3, .ii v, .bad, .bad, .bad, .own 17, .bad, .bad, .bad, .bad, .own 54, .ii n2, .pt 12 0 0, .bool e7, .pt 14 0 0, .bad, .bad, .bad, .bad, .bad, .bad, .bad, .bad, .bad, .bad, .bad, .bad, .bad, .bad, .bad, .bad, .bad, .bad, .bad, .bad, .bad, .bad, .bad, .bad, .bad, .bad, .bad, .bad, .bad, .bad, .bad, .bad, .bad, .bad, .bad, .bad, .bad, .bad, .bad, .bad, .ii n2, .own 17, .ii (A.rlen R), .bool (A.cmp .lss n2 (A.rlen R)), .bad, .bad, .tup [.agg [.ii c2, .ii a7, .ii a5, .ii b0, .ii a6, .ii a1, .str a9, .str a8, .str a0], .bool e7], .sl 9 b3, .ii v, .own 17, .ii n2, .pt 17 (Int.toNat n2) 0, .ii x15, .tup [.agg [.ii c2, .ii a7, .ii a5, .ii b0, .ii a6, .ii a1, .str a9, .str a8, .str a0], .bool e7], .agg [.ii c2, .ii a7, .ii a5, .ii b0, .ii a6, .ii a1, .str a9, .str a8, .str a0], .bool e7, .own 17, .ii n2, .pt 17 (Int.toNat n2) 0, .ii x15, .pt 12 0 1, .pt 12 0 5, .ii a1, .pt 12 0 1, .pt 12 0 8, .str a0, .agg [.ii x15, .ii a1, .str a0], .bad, .bad, .bad, .bad, .bad, .bad, .bad, .bad, .bad, .bad, .bad, .bad, .bad, .bad, .bad, .bad, .bad, .bad, .bad, .bad], bl := [(12, ⟨.var, 9, [[.ii c2, .ii a7, .ii a5, .ii b0, .ii a6, .ii a1, .str a9, .str a8, .str a0]]⟩), (14, ⟨.var, 3, [[.ii x15, .ii a1, .str a0]]⟩), (17, ⟨.arr, 1, R⟩), (54, ⟨.arr, 3, R2⟩)] } : St) := by
    intro dn
    induction dn with
    | zero =>
     intro  dhn
     exact dwp_last dhF
    | succ dn ih =>
     intro  dhn
     subst dhR
     refine dwp_next (is := [0, 1, 2, 3, 4, 5, 6, 7, 8, 9, 10, 11, 12]) rfl ?_
     refine allRdy_none rfl ?_
     refine allRdy_none rfl ?_
     refine allRdy_none rfl ?_
     refine allRdy_none rfl ?_
     refine allRdy_none rfl ?_
     refine allRdy_none rfl ?_
     refine allRdy_none rfl ?_
     refine allRdy_none rfl ?_
     refine allRdy_none rfl ?_
     refine allRdy_none rfl ?_
     refine allRdy_none rfl ?_
     refine allRdy_none rfl ?_
     refine allRdy_none rfl ?_
     exact trivial
   have B0 : ∀ (dn : Nat) {dB0 dB1 dB2 dB3 dB4 dB5 dB6 dB7 dB8 dB9 d6 : Bool} {dQ0 dQ1 dQ2 dQ3 dQ4 dQ5 dQ6 dQ7 dQ8 dQ9 i6 : PV}, (dB0 = true → dQ0 = .own 17) → (dB1 = true → dQ1 = .ii n2) → (dB2 = true → dQ2 = .pt 17 (Int.toNat n2) 0) → (dB3 = true → dQ3 = .ii x15) → (dB4 = true → dQ4 = .pt 12 0 1) → (dB5 = true → dQ5 = .pt 12 0 5) → (dB6 = true → dQ6 = .ii a1) → (dB7 = true → dQ7 = .pt 12 0 1) → (dB8 = true → dQ8 = .pt 12 0 8) → (dB9 = true → dQ9 = .str a0) → (d6 = true → i6 = .agg [.ii x15, .ii a1, .str a0]) → (dB2 = true → dB0 = true) → (dB2 = true → dB1 = true) → (dB3 = true → dB2 = true) → (dB5 = true → dB4 = true) → (dB6 = true → dB5 = true) → (dB8 = true → dB7 = true) → (dB9 = true → dB8 = true) → (d6 = true → dB3 = true) → (d6 = true → dB6 = true) → (d6 = true → dB9 = true) → cntF [dB0, dB1, dB2, dB3, dB4, dB5, dB6, dB7, dB8, dB9, d6, true, false] = dn → dwp T ⟨Real Tryz.prog, RealM Tryz.prog, RealC Tryz.prog⟩ dR dK dn [dB0, dB1, dB2, dB3, dB4, dB5, dB6, dB7, dB8, dB9, d6, true, false] ({ sl := [.sl 9 b3, .ii v, .bad, .bad, .bad, .own 17, .bad, .bad, .bad, .bad, .own 54, .ii n2, .pt 12 0 0, .bool e7, .pt 14 0 0, .bad, .bad, .bad, .bad, .bad, .bad, .bad, .bad, .bad, .bad, .bad, .bad, .bad, .bad, .bad, .bad, .bad, .bad, .bad, .bad, .bad, .bad, .bad, .bad, .bad, .bad, .bad, .bad, .bad, .bad, .bad, .bad, .bad, .bad, .bad, .bad, .bad, .bad, .bad, .bad, .ii n2, .own 17, .ii (A.rlen R), .bool (A.cmp .lss n2 (A.rlen R)), .bad, .bad, .tup [.agg [.ii c2, .ii a7, .ii a5, .ii b0, .ii a6, .ii a1, .str a9, .str a8, .str a0], .bool e7], .sl 9 b3, .ii v, .own 17, .ii n2, .pt 17 (Int.toNat n2) 0, .ii x15, .tup [.agg [.ii c2, .ii a7, .ii a5, .ii b0, .ii a6, .ii a1, .str a9, .str a8, .str a0], .bool e7], .agg [.ii c2, .ii a7, .ii a5, .ii b0, .ii a6, .ii a1, .str a9, .str a8, .str a0], .bool e7, dQ0, dQ1, dQ2, dQ3, dQ4, dQ5, dQ6, dQ7, dQ8, dQ9, i6, .bad, .bad, .bad, .bad, .bad, .bad, .bad, .bad, .bad, .bad, .bad, .bad, .bad, .bad, .bad, .bad, .bad, .bad, .bad, .bad], bl := [(12, ⟨.var, 9, [[.ii c2, .ii a7, .ii a5, .ii b0, .ii a6, .ii a1, .str a9, .str a8, .str a0]]⟩), (14, ⟨.var, 3, [[.ii 0, .ii 0, .str ByteArray.empty]]⟩), (17, ⟨.arr, 1, R⟩), (54, ⟨.arr, 3, R2⟩)] } : St) := by
    intro dn
    induction dn with
    | zero =>
     intro dB0 dB1 dB2 dB3 dB4 dB5 dB6 dB7 dB8 dB9 d6 dQ0 dQ1 dQ2 dQ3 dQ4 dQ5 dQ6 dQ7 dQ8 dQ9 i6 dh0 dh1 dh2 dh3 dh4 dh5 dh6 dh7 dh8 dh9 b5 f3 f2 f5 b2 f1 b1 f4 e8 f0 a4 dhn
     exact absurd (show false = true from cntF_zero  _ dhn 12 (by show 12 < 13; decide)) (by decide)
    | succ dn ih =>
     intro dB0 dB1 dB2 dB3 dB4 dB5 dB6 dB7 dB8 dB9 d6 dQ0 dQ1 dQ2 dQ3 dQ4 dQ5 dQ6 dQ7 dQ8 dQ9 i6 dh0 dh1 dh2 dh3 dh4 dh5 dh6 dh7 dh8 dh9 b5 f3 f2 f5 b2 f1 b1 f4 e8 f0 a4 dhn
     subst dhR
     refine dwp_next (is := [0, 1, 2, 3, 4, 5, 6, 7, 8, 9, 10, 11, 12]) rfl ?_
     refine allRdy_q rfl rfl (fun h0 h1 => ?_) ?_
     ·
      cases (show dB0 = false from h0)
      refine rn hA 1 ?_
      refine ow_ ?_
      exact ih (fun _ => rfl) dh1 dh2 dh3 dh4 dh5 dh6 dh7 dh8 dh9 b5 (fun _ => rfl) f2 f5 b2 f1 b1 f4 e8 f0 a4 (cnt_dec h0 (by show 0 < 13; decide) dhn)
     refine allRdy_q rfl rfl (fun h0 h1 => ?_) ?_
     ·
      cases (show dB1 = false from h0)
      refine rn hA 1 ?_
      refine ow_ ?_
      exact ih dh0 (fun _ => rfl) dh2 dh3 dh4 dh5 dh6 dh7 dh8 dh9 b5 f3 (fun _ => rfl) f5 b2 f1 b1 f4 e8 f0 a4 (cnt_dec h0 (by show 1 < 13; decide) dhn)
     refine allRdy_q rfl rfl (fun h0 h1 => ?_) ?_
     ·
      cases (show dB2 = false from h0)
      obtain rfl : dB0 = true := h1.1
      obtain rfl := dh0 rfl
      obtain rfl : dB1 = true := h1.2.1
      obtain rfl := dh1 rfl
      refine ops_step rfl rfl (idx_own rfl rfl rfl rfl rfl rfl t5 s4 rfl) ?_
      refine ow_ ?_
      exact ih (fun _ => rfl) (fun _ => rfl) (fun _ => rfl) dh3 dh4 dh5 dh6 dh7 dh8 dh9 b5 (fun _ => rfl) (fun _ => rfl) (fun _ => rfl) b2 f1 b1 f4 e8 f0 a4 (cnt_dec h0 (by show 2 < 13; decide) dhn)
     refine allRdy_q rfl rfl (fun h0 h1 => ?_) ?_
     ·
      cases (show dB3 = false from h0)
      obtain rfl : dB2 = true := h1.1
      obtain rfl := dh2 rfl
      obtain rfl : dB0 = true := f3 rfl
      obtain rfl := dh0 rfl
      obtain rfl : dB1 = true := f2 rfl
      obtain rfl := dh1 rfl
      refine ops_step rfl rfl (ld_arr rfl rfl rfl rfl t4 rfl) ?_
      refine ow_ ?_
      exact ih (fun _ => rfl) (fun _ => rfl) (fun _ => rfl) (fun _ => rfl) dh4 dh5 dh6 dh7 dh8 dh9 b5 (fun _ => rfl) (fun _ => rfl) (fun _ => rfl) b2 f1 b1 f4 (fun _ => rfl) f0 a4 (cnt_dec h0 (by show 3 < 13; decide) dhn)
     refine allRdy_q rfl rfl (fun h0 h1 => ?_) ?_
     ·
      cases (show dB4 = false from h0)
      refine rn hA 1 ?_
      refine ow_ ?_
      exact ih dh0 dh1 dh2 dh3 (fun _ => rfl) dh5 dh6 dh7 dh8 dh9 b5 f3 f2 f5 (fun _ => rfl) f1 b1 f4 e8 f0 a4 (cnt_dec h0 (by show 4 < 13; decide) dhn)
     refine allRdy_q rfl rfl (fun h0 h1 => ?_) ?_
     ·
      cases (show dB5 = false from h0)
      obtain rfl : dB4 = true := h1.1
      obtain rfl := dh4 rfl
      refine rn hA 1 ?_
      refine ow_ ?_
      exact ih dh0 dh1 dh2 dh3 (fun _ => rfl) (fun _ => rfl) dh6 dh7 dh8 dh9 b5 f3 f2 f5 (fun _ => rfl) (fun _ => rfl) b1 f4 e8 f0 a4 (cnt_dec h0 (by show 5 < 13; decide) dhn)
     refine allRdy_q rfl rfl (fun h0 h1 => ?_) ?_
     ·
      cases (show dB6 = false from h0)
      obtain rfl : dB5 = true := h1.1
      obtain rfl := dh5 rfl
      obtain rfl : dB4 = true := b2 rfl
      obtain rfl := dh4 rfl
      refine rn hA 1 ?_
      refine ow_ ?_
      exact ih dh0 dh1 dh2 dh3 (fun _ => rfl) (fun _ => rfl) (fun _ => rfl) dh7 dh8 dh9 b5 f3 f2 f5 (fun _ => rfl) (fun _ => rfl) b1 f4 e8 (fun _ => rfl) a4 (cnt_dec h0 (by show 6 < 13; decide) dhn)
     refine allRdy_q rfl rfl (fun h0 h1 => ?_) ?_
     ·
      cases (show dB7 = false from h0)
      refine rn hA 1 ?_
      refine ow_ ?_
      exact ih dh0 dh1 dh2 dh3 dh4 dh5 dh6 (fun _ => rfl) dh8 dh9 b5 f3 f2 f5 b2 f1 (fun _ => rfl) f4 e8 f0 a4 (cnt_dec h0 (by show 7 < 13; decide) dhn)
     refine allRdy_q rfl rfl (fun h0 h1 => ?_) ?_
     ·
      cases (show dB8 = false from h0)
      obtain rfl : dB7 = true := h1.1
      obtain rfl := dh7 rfl
      refine rn hA 1 ?_
      refine ow_ ?_
      exact ih dh0 dh1 dh2 dh3 dh4 dh5 dh6 (fun _ => rfl) (fun _ => rfl) dh9 b5 f3 f2 f5 b2 f1 (fun _ => rfl) (fun _ => rfl) e8 f0 a4 (cnt_dec h0 (by show 8 < 13; decide) dhn)
     refine allRdy_q rfl rfl (fun h0 h1 => ?_) ?_
     ·
      cases (show dB9 = false from h0)
      obtain rfl : dB8 = true := h1.1
      obtain rfl := dh8 rfl
      obtain rfl : dB7 = true := b1 rfl
      obtain rfl := dh7 rfl
      refine rn hA 1 ?_
      refine ow_ ?_
      exact ih dh0 dh1 dh2 dh3 dh4 dh5 dh6 (fun _ => rfl) (fun _ => rfl) (fun _ => rfl) b5 f3 f2 f5 b2 f1 (fun _ => rfl) (fun _ => rfl) e8 f0 (fun _ => rfl) (cnt_dec h0 (by show 9 < 13; decide) dhn)
     refine allRdy_q rfl rfl (fun h0 h1 => ?_) ?_
     ·
      cases (show d6 = false from h0)
      obtain rfl : dB3 = true := h1.1
      obtain rfl := dh3 rfl
      obtain rfl : dB2 = true := f5 rfl
      obtain rfl := dh2 rfl
      obtain rfl : dB0 = true := f3 rfl
      obtain rfl := dh0 rfl
      obtain rfl : dB1 = true := f2 rfl
      obtain rfl := dh1 rfl
      obtain rfl : dB6 = true := h1.2.1
      obtain rfl := dh6 rfl
      obtain rfl : dB5 = true := f1 rfl
      obtain rfl := dh5 rfl
      obtain rfl : dB4 = true := b2 rfl
      obtain rfl := dh4 rfl
      obtain rfl : dB9 = true := h1.2.2.1
      obtain rfl := dh9 rfl
      obtain rfl : dB8 = true := f4 rfl
      obtain rfl := dh8 rfl
      obtain rfl : dB7 = true := b1 rfl
      obtain rfl := dh7 rfl
      refine rn hA 1 ?_
      refine ow_ ?_
      exact ih (fun _ => rfl) (fun _ => rfl) (fun _ => rfl) (fun _ => rfl) (fun _ => rfl) (fun _ => rfl) (fun _ => rfl) (fun _ => rfl) (fun _ => rfl) (fun _ => rfl) (fun _ => rfl) (fun _ => rfl) (fun _ => rfl) (fun _ => rfl) (fun _ => rfl) (fun _ => rfl) (fun _ => rfl) (fun _ => rfl) (fun _ => rfl) (fun _ => rfl) (fun _ => rfl) (cnt_dec h0 (by show 10 < 13; decide) dhn)
     refine allRdy_none rfl ?_
     refine allRdy_q rfl rfl (fun h0 h1 => ?_) ?_
     ·
      obtain rfl : d6 = true := h1.2.1
      obtain rfl := b5 rfl
      obtain rfl : dB3 = true := e8 rfl
      obtain rfl := dh3 rfl
      obtain rfl : dB2 = true := f5 rfl
      obtain rfl := dh2 rfl
      obtain rfl : dB0 = true := f3 rfl
      obtain rfl := dh0 rfl
      obtain rfl : dB1 = true := f2 rfl
      obtain rfl := dh1 rfl
      obtain rfl : dB6 = true := f0 rfl
      obtain rfl := dh6 rfl
      obtain rfl : dB5 = true := f1 rfl
      obtain rfl := dh5 rfl
      obtain rfl : dB4 = true := b2 rfl
      obtain rfl := dh4 rfl
      obtain rfl : dB9 = true := a4 rfl
      obtain rfl := dh9 rfl
      obtain rfl : dB8 = true := f4 rfl
      obtain rfl := dh8 rfl
      obtain rfl : dB7 = true := b1 rfl
      obtain rfl := dh7 rfl
      refine rn hA 1 ?_
      refine ow_ ?_
      exact x5 dn (cnt_dec h0 (by show 12 < 13; decide) dhn)
     exact trivial
   have H_ : ∀ (dn : Nat) {dB0 dB1 dB2 dB3 dB4 dB5 dB6 dB7 dB8 dB9 d6 : Bool} {dQ0 dQ1 dQ2 dQ3 dQ4 dQ5 dQ6 dQ7 dQ8 dQ9 i6 : PV}, (dB0 = true → dQ0 = .own 17) → (dB1 = true → dQ1 = .ii n2) → (dB2 = true → dQ2 = .pt 17 (Int.toNat n2) 0) → (dB3 = true → dQ3 = .ii x15) → (dB4 = true → dQ4 = .pt 12 0 1) → (dB5 = true → dQ5 = .pt 12 0 5) → (dB6 = true → dQ6 = .ii a1) → (dB7 = true → dQ7 = .pt 12 0 1) → (dB8 = true → dQ8 = .pt 12 0 8) → (dB9 = true → dQ9 = .str a0) → (d6 = true → i6 = .agg [.ii x15, .ii a1, .str a0]) → (dB2 = true → dB0 = true) → (dB2 = true → dB1 = true) → (dB3 = true → dB2 = true) → (dB5 = true → dB4 = true) → (dB6 = true → dB5 = true) → (dB8 = true → dB7 = true) → (dB9 = true → dB8 = true) → (d6 = true → dB3 = true) → (d6 = true → dB6 = true) → (d6 = true → dB9 = true) → cntF [dB0, dB1, dB2, dB3, dB4, dB5, dB6, dB7, dB8, dB9, d6, false, false] = dn → dwp T ⟨Real Tryz.prog, RealM Tryz.prog, RealC Tryz.prog⟩ dR dK dn [dB0, dB1, dB2, dB3, dB4, dB5, dB6, dB7, dB8, dB9, d6, false, false] ({ sl := [.sl 9 b3, .ii v, .bad, .bad, .bad, .own 17, .bad, .bad, .bad, .bad, .own 54, .ii n2, .pt 12 0 0, .bool e7, .bad, .bad, .bad, .bad, .bad, .bad, .bad, .bad, .bad, .bad, .bad, .bad, .bad, .bad, .bad, .bad, .bad, .bad, .bad, .bad, .bad, .bad, .bad, .bad, .bad, .bad, .bad, .bad, .bad, .bad, .bad, .bad, .bad, .bad, .bad, .bad, .bad, .bad, .bad, .bad, .bad, .ii n2, .own 17, .ii (A.rlen R), .bool (A.cmp .lss n2 (A.rlen R)), .bad, .bad, .tup [.agg [.ii c2, .ii a7, .ii a5, .ii b0, .ii a6, .ii a1, .str a9, .str a8, .str a0], .bool e7], .sl 9 b3, .ii v, .own 17, .ii n2, .pt 17 (Int.toNat n2) 0, .ii x15, .tup [.agg [.ii c2, .ii a7, .ii a5, .ii b0, .ii a6, .ii a1, .str a9, .str a8, .str a0], .bool e7], .agg [.ii c2, .ii a7, .ii a5, .ii b0, .ii a6, .ii a1, .str a9, .str a8, .str a0], .bool e7, dQ0, dQ1, dQ2, dQ3, dQ4, dQ5, dQ6, dQ7, dQ8, dQ9, i6, .bad, .bad, .bad, .bad, .bad, .bad, .bad, .bad, .bad, .bad, .bad, .bad, .bad, .bad, .bad, .bad, .bad, .bad, .bad, .bad], bl := [(12, ⟨.var, 9, [[.ii c2, .ii a7, .ii a5, .ii b0, .ii a6, .ii a1, .str a9, .str a8, .str a0]]⟩), (17, ⟨.arr, 1, R⟩), (54, ⟨.arr, 3, R2⟩)] } : St) := by
    intro dn
    induction dn with
    | zero =>
     intro dB0 dB1 dB2 dB3 dB4 dB5 dB6 dB7 dB8 dB9 d6 dQ0 dQ1 dQ2 dQ3 dQ4 dQ5 dQ6 dQ7 dQ8 dQ9 i6 dh0 dh1 dh2 dh3 dh4 dh5 dh6 dh7 dh8 dh9 b5 f3 f2 f5 b2 f1 b1 f4 e8 f0 a4 dhn
     exact absurd (show false = true from cntF_zero  _ dhn 11 (by show 11 < 13; decide)) (by decide)
    | succ dn ih =>
     intro dB0 dB1 dB2 dB3 dB4 dB5 dB6 dB7 dB8 dB9 d6 dQ0 dQ1 dQ2 dQ3 dQ4 dQ5 dQ6 dQ7 dQ8 dQ9 i6 dh0 dh1 dh2 dh3 dh4 dh5 dh6 dh7 dh8 dh9 b5 f3 f2 f5 b2 f1 b1 f4 e8 f0 a4 dhn
     subst dhR
     refine dwp_next (is := [0, 1, 2, 3, 4, 5, 6, 7, 8, 9, 10, 11, 12]) rfl ?_
     refine allRdy_q rfl rfl (fun h0 h1 => ?_) ?_
     ·
      cases (show dB0 = false from h0)
      refine rn hA 1 ?_
      refine ow_ ?_
      exact ih (fun _ => rfl) dh1 dh2 dh3 dh4 dh5 dh6 dh7 dh8 dh9 b5 (fun _ => rfl) f2 f5 b2 f1 b1 f4 e8 f0 a4 (cnt_dec h0 (by show 0 < 13; decide) dhn)
     refine allRdy_q rfl rfl (fun h0 h1 => ?_) ?_
     ·
      cases (show dB1 = false from h0)
      refine rn hA 1 ?_
      refine ow_ ?_
      exact ih dh0 (fun _ => rfl) dh2 dh3 dh4 dh5 dh6 dh7 dh8 dh9 b5 f3 (fun _ => rfl) f5 b2 f1 b1 f4 e8 f0 a4 (cnt_dec h0 (by show 1 < 13; decide) dhn)
     refine allRdy_q rfl rfl (fun h0 h1 => ?_) ?_
     ·
      cases (show dB2 = false from h0)
      obtain rfl : dB0 = true := h1.1
      obtain rfl := dh0 rfl
      obtain rfl : dB1 = true := h1.2.1
      obtain rfl := dh1 rfl
      refine ops_step rfl rfl (idx_own rfl rfl rfl rfl rfl rfl t5 s4 rfl) ?_
      refine ow_ ?_
      exact ih (fun _ => rfl) (fun _ => rfl) (fun _ => rfl) dh3 dh4 dh5 dh6 dh7 dh8 dh9 b5 (fun _ => rfl) (fun _ => rfl) (fun _ => rfl) b2 f1 b1 f4 e8 f0 a4 (cnt_dec h0 (by show 2 < 13; decide) dhn)
     refine allRdy_q rfl rfl (fun h0 h1 => ?_) ?_
     ·
      cases (show dB3 = false from h0)
      obtain rfl : dB2 = true := h1.1
      obtain rfl := dh2 rfl
      obtain rfl : dB0 = true := f3 rfl
      obtain rfl := dh0 rfl
      obtain rfl : dB1 = true := f2 rfl
      obtain rfl := dh1 rfl
      refine ops_step rfl rfl (ld_arr rfl rfl rfl rfl t4 rfl) ?_
      refine ow_ ?_
      exact ih (fun _ => rfl) (fun _ => rfl) (fun _ => rfl) (fun _ => rfl) dh4 dh5 dh6 dh7 dh8 dh9 b5 (fun _ => rfl) (fun _ => rfl) (fun _ => rfl) b2 f1 b1 f4 (fun _ => rfl) f0 a4 (cnt_dec h0 (by show 3 < 13; decide) dhn)
     refine allRdy_q rfl rfl (fun h0 h1 => ?_) ?_
     ·
      cases (show dB4 = false from h0)
      refine rn hA 1 ?_
      refine ow_ ?_
      exact ih dh0 dh1 dh2 dh3 (fun _ => rfl) dh5 dh6 dh7 dh8 dh9 b5 f3 f2 f5 (fun _ => rfl) f1 b1 f4 e8 f0 a4 (cnt_dec h0 (by show 4 < 13; decide) dhn)
     refine allRdy_q rfl rfl (fun h0 h1 => ?_) ?_
     ·
      cases (show dB5 = false from h0)
      obtain rfl : dB4 = true := h1.1
      obtain rfl := dh4 rfl
      refine rn hA 1 ?_
      refine ow_ ?_
      exact ih dh0 dh1 dh2 dh3 (fun _ => rfl) (fun _ => rfl) dh6 dh7 dh8 dh9 b5 f3 f2 f5 (fun _ => rfl) (fun _ => rfl) b1 f4 e8 f0 a4 (cnt_dec h0 (by show 5 < 13; decide) dhn)
     refine allRdy_q rfl rfl (fun h0 h1 => ?_) ?_
     ·
      cases (show dB6 = false from h0)
      obtain rfl : dB5 = true := h1.1
      obtain rfl := dh5 rfl
      obtain rfl : dB4 = true := b2 rfl
      obtain rfl := dh4 rfl
      refine rn hA 1 ?_
      refine ow_ ?_
      exact ih dh0 dh1 dh2 dh3 (fun _ => rfl) (fun _ => rfl) (fun _ => rfl) dh7 dh8 dh9 b5 f3 f2 f5 (fun _ => rfl) (fun _ => rfl) b1 f4 e8 (fun _ => rfl) a4 (cnt_dec h0 (by show 6 < 13; decide) dhn)
     refine allRdy_q rfl rfl (fun h0 h1 => ?_) ?_
     ·
      cases (show dB7 = false from h0)
      refine rn hA 1 ?_
      refine ow_ ?_
      exact ih dh0 dh1 dh2 dh3 dh4 dh5 dh6 (fun _ => rfl) dh8 dh9 b5 f3 f2 f5 b2 f1 (fun _ => rfl) f4 e8 f0 a4 (cnt_dec h0 (by show 7 < 13; decide) dhn)
     refine allRdy_q rfl rfl (fun h0 h1 => ?_) ?_
     ·
      cases (show dB8 = false from h0)
      obtain rfl : dB7 = true := h1.1
      obtain rfl := dh7 rfl
      refine rn hA 1 ?_
      refine ow_ ?_
      exact ih dh0 dh1 dh2 dh3 dh4 dh5 dh6 (fun _ => rfl) (fun _ => rfl) dh9 b5 f3 f2 f5 b2 f1 (fun _ => rfl) (fun _ => rfl) e8 f0 a4 (cnt_dec h0 (by show 8 < 13; decide) dhn)
     refine allRdy_q rfl rfl (fun h0 h1 => ?_) ?_
     ·
      cases (show dB9 = false from h0)
      obtain rfl : dB8 = true := h1.1
      obtain rfl := dh8 rfl
      obtain rfl : dB7 = true := b1 rfl
      obtain rfl := dh7 rfl
      refine rn hA 1 ?_
      refine ow_ ?_
      exact ih dh0 dh1 dh2 dh3 dh4 dh5 dh6 (fun _ => rfl) (fun _ => rfl) (fun _ => rfl) b5 f3 f2 f5 b2 f1 (fun _ => rfl) (fun _ => rfl) e8 f0 (fun _ => rfl) (cnt_dec h0 (by show 9 < 13; decide) dhn)
     refine allRdy_q rfl rfl (fun h0 h1 => ?_) ?_
     ·
      cases (show d6 = false from h0)
      obtain rfl : dB3 = true := h1.1
      obtain rfl := dh3 rfl
      obtain rfl : dB2 = true := f5 rfl
      obtain rfl := dh2 rfl
      obtain rfl : dB0 = true := f3 rfl
      obtain rfl := dh0 rfl
      obtain rfl : dB1 = true := f2 rfl
      obtain rfl := dh1 rfl
      obtain rfl : dB6 = true := h1.2.1
      obtain rfl := dh6 rfl
      obtain rfl : dB5 = true := f1 rfl
      obtain rfl := dh5 rfl
      obtain rfl : dB4 = true := b2 rfl
      obtain rfl := dh4 rfl
      obtain rfl : dB9 = true := h1.2.2.1
      obtain rfl := dh9 rfl
      obtain rfl : dB8 = true := f4 rfl
      obtain rfl := dh8 rfl
      obtain rfl : dB7 = true := b1 rfl
      obtain rfl := dh7 rfl
      refine rn hA 1 ?_
      refine ow_ ?_
      exact ih (fun _ => rfl) (fun _ => rfl) (fun _ => rfl) (fun _ => rfl) (fun _ => rfl) (fun _ => rfl) (fun _ => rfl) (fun _ => rfl) (fun _ => rfl) (fun _ => rfl) (fun _ => rfl) (fun _ => rfl) (fun _ => rfl) (fun _ => rfl) (fun _ => rfl) (fun _ => rfl) (fun _ => rfl) (fun _ => rfl) (fun _ => rfl) (fun _ => rfl) (fun _ => rfl) (cnt_dec h0 (by show 10 < 13; decide) dhn)
     refine allRdy_q rfl rfl (fun h0 h1 => ?_) ?_
     ·
      refine rn hA 1 ?_
      refine ops_done (dwp_to [.up 54, .up 17, .up 14, .up 12] (by cbv) rfl ?_)
      exact B0 dn dh0 dh1 dh2 dh3 dh4 dh5 dh6 dh7 dh8 dh9 b5 f3 f2 f5 b2 f1 b1 f4 e8 f0 a4 (cnt_dec h0 (by show 11 < 13; decide) dhn)
     refine allRdy_q rfl rfl (fun _ h1 => absurd (show false = true from h1.1) (by decide)) ?_
     exact trivial
   exact dwp_to [] (by cbv) rfl (@H_ 13 false false false false false false false false false false false (.bad) (.bad) (.bad) (.bad) (.bad) (.bad) (.bad) (.bad) (.bad) (.bad) (.bad) (fun h => absurd h (by decide)) (fun h => absurd h (by decide)) (fun h => absurd h (by decide)) (fun h => absurd h (by decide)) (fun h => absurd h (by decide)) (fun h => absurd h (by decide)) (fun h => absurd h (by decide)) (fun h => absurd h (by decide)) (fun h => absurd h (by decide)) (fun h => absurd h (by decide)) (fun h => absurd h (by decide)) (fun h => absurd h (by decide)) (fun h => absurd h (by decide)) (fun h => absurd h (by decide)) (fun h => absurd h (by decide)) (fun h => absurd h (by decide)) (fun h => absurd h (by decide)) (fun h => absurd h (by decide)) (fun h => absurd h (by decide)) (fun h => absurd h (by decide)) (fun h => absurd h (by decide)) rfl)
  refine gs (gr (rn hA 4 ?_))
  have y0 : n2 < (List.length R : Int) := by
   rw [hR, List.length_map]; omega
  refine ops_step rfl rfl (idx_own rfl rfl rfl rfl rfl rfl t5 y0 rfl) ?_
  refine ops_step rfl rfl (ld_arr rfl rfl rfl rfl t4 rfl) ?_
  obtain ⟨o1, j8, j3, l0, j6, e9, j7, j5, j9, r2, q4, n4, m4, n9, m9, m5, n0, n5, m8, o5, z4⟩ : ∃ (o1 : Int) (j8 : Int) (j3 : Int) (l0 : Int) (j6 : Int) (e9 : Int) (j7 : ByteArray) (j5 : ByteArray) (j9 : ByteArray) (r2 : Bool), o1 = ((Option.getD (lat (mailIs 4 v x15) bySeqB xs) zItem).Seq) ∧ j8 = (((Option.getD (lat (mailIs 4 v x15) bySeqB xs) zItem).Rec).Kind) ∧ j3 = (((Option.getD (lat (mailIs 4 v x15) bySeqB xs) zItem).Rec).Valid) ∧ l0 = (((Option.getD (lat (mailIs 4 v x15) bySeqB xs) zItem).Rec).Uid) ∧ j6 = (((Option.getD (lat (mailIs 4 v x15) bySeqB xs) zItem).Rec).Next) ∧ e9 = (((Option.getD (lat (mailIs 4 v x15) bySeqB xs) zItem).Rec).Flags) ∧ j7 = (((Option.getD (lat (mailIs 4 v x15) bySeqB xs) zItem).Rec).User) ∧ j5 = (((Option.getD (lat (mailIs 4 v x15) bySeqB xs) zItem).Rec).Name) ∧ j9 = (((Option.getD (lat (mailIs 4 v x15) bySeqB xs) zItem).Rec).Text) ∧ r2 = (Option.isSome (lat (mailIs 4 v x15) bySeqB xs)) ∧ Real Tryz.prog 126 [.sl 9 b3, .ii 4, .ii v, .ii x15] (.tup [.agg [.ii o1, .ii j8, .ii j3, .ii l0, .ii j6, .ii e9, .str j7, .str j5, .str j9], .bool r2]) := ⟨_, _, _, _, _, _, _, _, _, _, rfl, rfl, rfl, rfl, rfl, rfl, rfl, rfl, rfl, rfl, by subst i5; exact r_spec_l07Best A hA xs 4 v x15 (by omega)⟩
  refine ops_callV rfl rfl (by cbv) (by cbv) z4 (.inr rfl) (by cbv) ?_
  refine rz hA 6 ?_
  refine gs (gx hA 1 ?_)
  refine go_cond rfl (fun c23 => ?_) (fun c23 => ?_)
  ·
   refine gy hA 5 ?_
   refine gr (rn hA 3 ?_)
   obtain ⟨r24, y6⟩ := nm (R2 ++ [[.ii x15, .ii e9, .str a0]] : RR)
   have x9 : r24 = List.map eoMail ((List.map (mailR v xs) (List.take k (insF (uidQ v xs) GRec.Uid (xs.take i)))) ++ ([(⟨x15, e9, a0⟩ : GMail)])) := by rw [y6]; exact app_eq hR2 (by rfl)
   have C6 := rlen_map hA x9
   refine ops_step rfl rfl (app_own rfl rfl rfl rfl rfl rfl rfl rfl y6 (by cbv) (by cbv) (by cbv) rfl (by
    show (List.length R2 + List.length ([[.ii x15, .ii e9, .str a0]])) * _ ≤ _
    have h1 := insF_lt (uidQ v xs) GRec.Uid xs i
    show (List.length R2 + 1) * 32 ≤ _
    rw [hR2, List.length_map, List.length_map, List.length_take]; omega) (by decide) (by decide)) ?_
   refine rz hA 1 ?_
   refine gy hA 3 ?_
   refine ⟨(S130_2 b3 v (A.num .add .i64 n2 1) R r24), List.length (insF (uidQ v xs) GRec.Uid (xs.take i)) - (k + 1), ?_, by cbv, k + 1, (A.num .add .i64 n2 1), r24, rfl, ?_, rfl⟩
   ·
    omega
   have hM : mailR v xs x15 = (⟨x15, e9, a0⟩ : GMail) := by
    unfold mailR mailX
    rw [if_pos (by rw [← o5, c23])]
    simp only [q5, n1, m3, n8, n6, m2, m7, m6, n3, t1, q4, n4, m4, n9, m9, m5, n0, n5, m8, o5]
   refine ⟨by rw [add_i64 hA (by omega) (by omega)]; omega, by omega, ?_⟩
   rw [map_tk s1, hM]
   exact x9
  refine gk (gr (rn hA 3 ?_))
  obtain ⟨r25, y1⟩ := nm (R2 ++ [[.ii x15, .ii a1, .str a0]] : RR)
  have y7 : r25 = List.map eoMail ((List.map (mailR v xs) (List.take k (insF (uidQ v xs) GRec.Uid (xs.take i)))) ++ ([(⟨x15, a1, a0⟩ : GMail)])) := by rw [y1]; exact app_eq hR2 (by rfl)
  have C9 := rlen_map hA y7
  refine ops_step rfl rfl (app_own rfl rfl rfl rfl rfl rfl rfl rfl y1 (by cbv) (by cbv) (by cbv) rfl (by
   show (List.length R2 + List.length ([[.ii x15, .ii a1, .str a0]])) * _ ≤ _
   have h1 := insF_lt (uidQ v xs) GRec.Uid xs i
   show (List.length R2 + 1) * 32 ≤ _
   rw [hR2, List.length_map, List.length_map, List.length_take]; omega) (by decide) (by decide)) ?_
  refine rz hA 1 ?_
  refine gy hA 3 ?_
  refine ⟨(S130_2 b3 v (A.num .add .i64 n2 1) R r25), List.length (insF (uidQ v xs) GRec.Uid (xs.take i)) - (k + 1), ?_, by cbv, k + 1, (A.num .add .i64 n2 1), r25, rfl, ?_, rfl⟩
  ·
   omega
  have hM : mailR v xs x15 = (⟨x15, a1, a0⟩ : GMail) := by
   unfold mailR mailX
   rw [if_neg (by rw [← o5, c23]; decide)]
   simp only [q5, n1, m3, n8, n6, m2, m7, m6, n3, t1, q4, n4, m4, n9, m9, m5, n0, n5, m8, o5]
  refine ⟨by rw [add_i64 hA (by omega) (by omega)]; omega, by omega, ?_⟩
  rw [map_tk s1, hM]
  exact y7
 have z7 : (A.rlen R) ≤ n2 := lss_f hA c14
 refine go_exit ⟨fun _ => ?_, fun h => absurd rfl h⟩
 refine gx hA 2 ?_
 refine go_ret ⟨_, by cbv, ?_⟩
 show _ = (PV.ow 3 R2)
 refine congrArg (PV.ow 3) ?_
 rw [hR2, List.take_of_length_le (by omega), List.take_of_length_le (by omega)]
 rfl
def S88_1 (p0 : RR) (p1 : Int) (p2 : RR) : St := { sl := [.sl 9 p0, .bad, .pt 2 0 0, .pt 3 0 0, .own 16, .ii p1, .bad, .bad, .bad, .bad, .bad, .bad, .bad, .bad, .bad, .bad, .bad, .bad, .bad, .bad, .bad, .bad, .bad, .bad, .bad, .bad, .bad, .bad, .bad, .bad, .bad, .bad, .bad, .bad, .bad, .bad, .bad, .bad, .bad, .bad, .bad, .bad, .bad, .bad, .bad, .bad, .bad, .bad, .bad, .bad, .bad, .bad, .bad, .bad, .bad, .bad, .bad, .bad, .bad, .bad, .bad, .bad, .bad, .bad, .bad, .bad, .bad, .bad, .bad, .bad, .bad, .bad, .bad, .bad, .bad, .bad, .bad, .bad, .bad, .bad, .bad, .bad, .bad, .bad, .bad, .bad, .bad], bl := [(2, ⟨.var, 1, [[.zc]]⟩), (3, ⟨.var, 1, [[.zc]]⟩), (16, ⟨.arr, 1, p2⟩)] }
def S88_2 (p0 : RR) (p1 : Int) (p2 : RR) (p3 : RR) : St := { sl := [.sl 9 p0, .bad, .pt 2 0 0, .pt 3 0 0, .own 16, .bad, .bad, .bad, .bad, .ii p1, .bad, .bad, .bad, .bad, .bad, .bad, .bad, .bad, .bad, .bad, .bad, .bad, .bad, .bad, .bad, .bad, .bad, .bad, .bad, .bad, .bad, .bad, .bad, .bad, .bad, .bad, .bad, .bad, .bad, .bad, .bad, .bad, .bad, .bad, .bad, .bad, .bad, .bad, .bad, .bad, .bad, .bad, .bad, .bad, .bad, .bad, .bad, .bad, .bad, .bad, .bad, .bad, .bad, .bad, .bad, .bad, .bad, .bad, .bad, .bad, .bad, .bad, .bad, .bad, .bad, .bad, .bad, .bad, .bad, .bad, .bad, .bad, .bad, .bad, .bad, .bad, .bad], bl := [(2, ⟨.var, 1, [[.zc]]⟩), (3, ⟨.var, 1, [[.own 7003]]⟩), (16, ⟨.arr, 1, p2⟩), (7003, ⟨.arr, 5, p3⟩)] }
theorem r_spec_StateOf (A : Alg) (hA : A = std) (xs : List GItem) (hz : ∀ q ∈ zsItemS xs, q ≤ 1048576) : Real Tryz.prog 88 [.sl 9 (List.map eItem xs)] (.agg (eoState (stateS xs))) := by
 obtain ⟨b3, i5⟩ := nm (xs.map eItem)
 have z2 := rlen_map hA i5
 refine real_args (args' := [.sl 9 b3]) (by subst i5; rfl) ?_
 have hx : List.length xs ≤ 1048576 := hz _ (List.mem_cons_self ..)
 have hzI : ∀ q ∈ zsItemS xs, (q : Int) ≤ 4611686018427387904 := fun q hq => by have := hz q hq; omega
 refine real tyOk Tryz.func88 (by kernel_rfl) (afun_of rfl ?_)
 refine gx hA 1 ?_
 refine gx hA 3 ?_
 refine gs (gs (gr (rn hA 1 ?_)))
 obtain ⟨s7, t8, hc2⟩ : ∃ (s7 : Bool), s7 = (itemsOk xs) ∧ Real Tryz.prog 125 [.sl 9 b3] (.bool s7) := ⟨_, rfl, by subst i5; exact r_spec_ItemsOk A hA xs hzI⟩
 refine ops_callV rfl rfl (by cbv) (by cbv) hc2 (.inr rfl) (by cbv) ?_
 refine rz hA 1 ?_
 refine go_cond rfl (fun c3 => ?_) (fun c3 => ?_)
 ·
  have c4 : s7 = false := bnot_t hA c3
  refine gs (gB (rn hA 2 ?_))
  refine ops_doneB (tw := [.cell 2 0 9001 5]) (by cbv) ?_
  refine go_ret ⟨_, by cbv, ?_⟩
  show _ = (PV.agg [.ow 5 ([])])
  have hS : stateS xs = ⟨[]⟩ := by rw [stateS, if_neg (by rw [← t8, c4]; decide)]
  rw [hS]
  rfl
 have c5 : s7 = true := bnot_f hA c3
 refine gk (gs ?_)
 have hok : itemsOk xs = true := by rw [← t8, c5]
 have hq : ∀ x ∈ xs, 1 ≤ x.Seq := fun x hx => (items_seq hok hx).1
 refine gy hA 2 ?_
 refine gs (gx hA 1 ?_)
 refine go_block ?_
 refine go_loopE (fun σ m => ∃ (i : Nat) (n : Int) (R : RR), σ = (S88_1 b3 n R) ∧ (n = (i : Int) ∧ i ≤ List.length xs ∧ R = List.map eInt (insF (boxQ xs) GRec.Valid (xs.take i))) ∧ m = List.length xs - i) _ [.up 16, .up 3, .up 2] [0, 2, 3, 4, 5] [2, 3, 16] (S88_1 b3 0 ([])) rfl (by cbv) ⟨0, 0, [], rfl, ?_, rfl⟩ (fun σ m hI => ?_)
 ·
  exact ⟨rfl, Nat.zero_le _, rfl⟩
 obtain ⟨i, n, R, rfl, ⟨hn, hi, hR⟩, rfl⟩ := hI
 have hul := insF_lt (boxQ xs) GRec.Valid xs i
 have lR := rlen_map hA hR
 refine gs (gx hA 4 ?_)
 refine go_cond rfl (fun c6 => ?_) (fun c6 => ?_)
 ·
  have ec6 : n < (A.rlen b3) := lss_t hA c6
  refine gk (gs ?_)
  refine go_block ?_
  refine gs (gr (rn hA 2 ?_))
  have B9 : (0 : Int) ≤ n := by
   omega
  have z8 : (Int.toNat n) < List.length xs := by
   omega
  obtain ⟨x7, hx7⟩ : ∃ x, (xs)[(Int.toNat n)]? = some x := ⟨_, List.getElem?_eq_getElem z8⟩
  have C7 := List.mem_of_getElem? hx7
  obtain ⟨q6, ⟨i1, b8, l9, k5, j2, k3, k4, k6⟩⟩ := x7
  have B3 : b3[(Int.toNat n)]? = some [.ii q6, .ii i1, .ii b8, .ii l9, .ii k5, .ii j2, .str k3, .str k4, .str k6] := by
   exact map_at eItem i5 hx7
  have s8 := hx7
  rw [hn] at s8
  have s8 : (xs)[i]? = some (⟨q6, ⟨i1, b8, l9, k5, j2, k3, k4, k6⟩⟩ : GItem) := s8
  refine ops_step rfl rfl (idx_sl rfl rfl rfl rfl rfl B9 rfl B3) ?_
  refine rz hA 4 ?_
  refine gs (gr (rn hA 3 ?_))
  obtain ⟨o7, k7, k2, m0, l3, k0, k9, k8, l4, p9, x8, w5, v6, x1, w0, v8, w6, w4, v9, r7, hc9⟩ : ∃ (o7 : Int) (k7 : Int) (k2 : Int) (m0 : Int) (l3 : Int) (k0 : Int) (k9 : ByteArray) (k8 : ByteArray) (l4 : ByteArray) (p9 : Bool), o7 = ((Option.getD (lat (mailIs 2 b8 0) bySeqB xs) zItem).Seq) ∧ k7 = (((Option.getD (lat (mailIs 2 b8 0) bySeqB xs) zItem).Rec).Kind) ∧ k2 = (((Option.getD (lat (mailIs 2 b8 0) bySeqB xs) zItem).Rec).Valid) ∧ m0 = (((Option.getD (lat (mailIs 2 b8 0) bySeqB xs) zItem).Rec).Uid) ∧ l3 = (((Option.getD (lat (mailIs 2 b8 0) bySeqB xs) zItem).Rec).Next) ∧ k0 = (((Option.getD (lat (mailIs 2 b8 0) bySeqB xs) zItem).Rec).Flags) ∧ k9 = (((Option.getD (lat (mailIs 2 b8 0) bySeqB xs) zItem).Rec).User) ∧ k8 = (((Option.getD (lat (mailIs 2 b8 0) bySeqB xs) zItem).Rec).Name) ∧ l4 = (((Option.getD (lat (mailIs 2 b8 0) bySeqB xs) zItem).Rec).Text) ∧ p9 = (Option.isSome (lat (mailIs 2 b8 0) bySeqB xs)) ∧ Real Tryz.prog 126 [.sl 9 b3, .ii 2, .ii b8, .ii 0] (.tup [.agg [.ii o7, .ii k7, .ii k2, .ii m0, .ii l3, .ii k0, .str k9, .str k8, .str l4], .bool p9]) := ⟨_, _, _, _, _, _, _, _, _, _, rfl, rfl, rfl, rfl, rfl, rfl, rfl, rfl, rfl, rfl, by subst i5; exact r_spec_l07Best A hA xs 2 b8 0 (by omega)⟩
  refine ops_callV rfl rfl (by cbv) (by cbv) hc9 (.inr rfl) (by cbv) ?_
  refine rz hA 6 ?_
  refine gs (gr (rn hA 4 ?_))
  refine ops_split 38 rfl (fun c10 => ?_) (fun c10 => ?_)
  ·
   have t6 : i1 = 1 := eql_t hA c10
   refine rz hA 3 ?_
   refine go_cond rfl (fun c11 => ?_) (fun c11 => ?_)
   ·
    have c12 : p9 = false := bnot_t hA c11
    refine gB (rn hA 3 ?_)
    obtain ⟨q8, s9, z5⟩ : ∃ (q8 : RR), q8 = List.map eInt (insS (insF (boxQ xs) GRec.Valid (xs.take i)) b8) ∧ Real Tryz.prog 127 [.sl 1 (eraseR R), .ii b8] (.ow 1 q8) := ⟨_, rfl, by subst hR; simp only [erR_Int]; exact r_spec_l07Sorted A hA (insF (boxQ xs) GRec.Valid (xs.take i)) b8 (by omega)⟩
    have C1 := rlen_map hA s9
    refine ops_callV rfl rfl (by cbv) (by cbv) z5 (.inl (by simp only [fresh, freshL, s9, frR_Int, and_self])) (by cbv) ?_
    refine rn hA 1 ?_
    refine ops_doneB (tw := [.drop 16, .ren 45 16, .up 16, .up 7, .up 6, .up 3, .up 2]) (by cbv) ?_
    refine gy hA 3 ?_
    refine ⟨(S88_1 b3 (A.num .add .i64 n 1) q8), List.length xs - (i + 1), ?_, by cbv, i + 1, (A.num .add .i64 n 1), q8, rfl, ?_, rfl⟩
    ·
     omega
    have hQ : (boxQ xs) (GItem.Rec (⟨q6, ⟨i1, b8, l9, k5, j2, k3, k4, k6⟩⟩ : GItem)) = true := by
     unfold boxQ
     simp [boxP, ← r7, c5, ec6, t6, c12]
    refine ⟨by rw [add_i64 hA (by omega) (by omega)]; omega, by omega, ?_⟩
    rw [insF_at s8, if_pos (by rw [hQ])]
    exact s9
   have c15 : p9 = true := bnot_f hA c11
   refine gk (gy hA 3 ?_)
   refine ⟨(S88_1 b3 (A.num .add .i64 n 1) R), List.length xs - (i + 1), ?_, by cbv, i + 1, (A.num .add .i64 n 1), R, rfl, ?_, rfl⟩
   ·
    omega
   have hQ : (boxQ xs) (GItem.Rec (⟨q6, ⟨i1, b8, l9, k5, j2, k3, k4, k6⟩⟩ : GItem)) = false := by
    unfold boxQ
    simp [boxP, ← r7, c5, ec6, t6, c15]
   refine ⟨by rw [add_i64 hA (by omega) (by omega)]; omega, by omega, ?_⟩
   rw [insF_at s8, if_neg (by rw [hQ]; decide)]
   exact hR
  have t6 : i1 ≠ 1 := eql_f hA c10
  refine rz hA 3 ?_
  refine go_cond rfl (fun c16 => ?_) (fun c16 => ?_)
  ·
   exact no_t c16 (show false = false from by rfl)
  refine gk (gy hA 3 ?_)
  refine ⟨(S88_1 b3 (A.num .add .i64 n 1) R), List.length xs - (i + 1), ?_, by cbv, i + 1, (A.num .add .i64 n 1), R, rfl, ?_, rfl⟩
  ·
   omega
  have hQ : (boxQ xs) (GItem.Rec (⟨q6, ⟨i1, b8, l9, k5, j2, k3, k4, k6⟩⟩ : GItem)) = false := by
   unfold boxQ
   simp [boxP, ← r7, c5, ec6, t6, t6.symm]
  refine ⟨by rw [add_i64 hA (by omega) (by omega)]; omega, by omega, ?_⟩
  rw [insF_at s8, if_neg (by rw [hQ]; decide)]
  exact hR
 have ec6 : (A.rlen b3) ≤ n := lss_f hA c6
 refine go_exit ⟨fun _ => ?_, fun h => absurd rfl h⟩
 refine gs (gx hA 1 ?_)
 refine go_block ?_
 refine go_loopE (fun σ m => ∃ (k : Nat) (n2 : Int) (R2 : RR), σ = (S88_2 b3 n2 R R2) ∧ (n2 = (k : Int) ∧ k ≤ List.length (insF (boxQ xs) GRec.Valid (xs.take i)) ∧ R2 = List.map eoBox (List.map (boxR xs) (List.take k (insF (boxQ xs) GRec.Valid (xs.take i))))) ∧ m = List.length (insF (boxQ xs) GRec.Valid (xs.take i)) - k) _ [.cell 3 0 7003 5, .up 7003, .up 16, .up 3, .up 2] [0, 2, 3, 4, 9] [2, 3, 16, 7003] (S88_2 b3 0 R ([])) rfl (by cbv) ⟨0, 0, [], rfl, ?_, rfl⟩ (fun σ m hI => ?_)
 ·
  exact ⟨rfl, Nat.zero_le _, rfl⟩
 obtain ⟨k, n2, R2, rfl, ⟨hk, hkl, hR2⟩, rfl⟩ := hI
 refine gs (gx hA 4 ?_)
 refine go_cond rfl (fun c17 => ?_) (fun c17 => ?_)
 ·
  have z9 : n2 < (A.rlen R) := lss_t hA c17
  refine gk (gs ?_)
  refine go_block ?_
  refine gs (gr (rn hA 3 ?_))
  have s2 : (0 : Int) ≤ n2 := by
   omega
  have z1 : (Int.toNat n2) < List.length (insF (boxQ xs) GRec.Valid (xs.take i)) := by
   omega
  obtain ⟨x18, x3⟩ : ∃ x, (insF (boxQ xs) GRec.Valid (xs.take i))[(Int.toNat n2)]? = some x := ⟨_, List.getElem?_eq_getElem z1⟩
  have C5 := List.mem_of_getElem? x3
  have s5 : R[(Int.toNat n2)]? = some [.ii x18] := by
   exact map_at eInt hR x3
  have t3 := x3
  rw [hk] at t3
  have t3 : (insF (boxQ xs) GRec.Valid (xs.take i))[k]? = some x18 := t3
  have s4 : n2 < (List.length R : Int) := by
   rw [hR, List.length_map]; omega
  refine ops_step rfl rfl (idx_own rfl rfl rfl rfl rfl rfl s2 s4 rfl) ?_
  refine ops_step rfl rfl (ld_arr rfl rfl rfl rfl s5 rfl) ?_
  obtain ⟨e6, b9, b6, d0, c9, b7, a2, a3, c0, t9, r4, q9, s6, r9, r0, r5, s0, r3, B2⟩ : ∃ (e6 : Int) (b9 : Int) (b6 : Int) (d0 : Int) (c9 : Int) (b7 : Int) (a2 : ByteArray) (a3 : ByteArray) (c0 : ByteArray), e6 = ((Option.getD (lat (kindIs 1 x18) byNextB xs) zItem).Seq) ∧ b9 = (((Option.getD (lat (kindIs 1 x18) byNextB xs) zItem).Rec).Kind) ∧ b6 = (((Option.getD (lat (kindIs 1 x18) byNextB xs) zItem).Rec).Valid) ∧ d0 = (((Option.getD (lat (kindIs 1 x18) byNextB xs) zItem).Rec).Uid) ∧ c9 = (((Option.getD (lat (kindIs 1 x18) byNextB xs) zItem).Rec).Next) ∧ b7 = (((Option.getD (lat (kindIs 1 x18) byNextB xs) zItem).Rec).Flags) ∧ a2 = (((Option.getD (lat (kindIs 1 x18) byNextB xs) zItem).Rec).User) ∧ a3 = (((Option.getD (lat (kindIs 1 x18) byNextB xs) zItem).Rec).Name) ∧ c0 = (((Option.getD (lat (kindIs 1 x18) byNextB xs) zItem).Rec).Text) ∧ Real Tryz.prog 128 [.sl 9 b3, .ii x18] (.agg [.ii e6, .ii b9, .ii b6, .ii d0, .ii c9, .ii b7, .str a2, .str a3, .str c0]) := ⟨_, _, _, _, _, _, _, _, _, rfl, rfl, rfl, rfl, rfl, rfl, rfl, rfl, rfl, by subst i5; exact r_spec_l07Tell A hA xs x18 (by omega) hq⟩
  refine ops_callV rfl rfl (by cbv) (by cbv) B2 (.inr rfl) (by cbv) ?_
  refine rz hA 2 ?_
  have v5 : n2 < (List.length R : Int) := by
   rw [hR, List.length_map]; omega
  have y8 : n2 < (List.length R : Int) := by
   rw [hR, List.length_map]; omega
  obtain ⟨f6, x6, B5⟩ : ∃ (f6 : Int), f6 = (nextR x18 xs) ∧ Real Tryz.prog 129 [.sl 9 b3, .ii x18] (.ii f6) := ⟨_, rfl, by subst i5; exact r_spec_l07Next A hA xs x18 (by omega) hok⟩
  have y4 : n2 < (List.length R : Int) := by
   rw [hR, List.length_map]; omega
  obtain ⟨o2, t0, z6⟩ : ∃ (o2 : RR), o2 = List.map eoMail (mailsR x18 xs) ∧ Real Tryz.prog 130 [.sl 9 b3, .ii x18] (.ow 3 o2) := ⟨_, rfl, by subst i5; exact r_spec_l07Mails A hA xs x18 (by omega)⟩
  have C2 := rlen_map hA t0
  obtain ⟨r29, y9⟩ := nm (R2 ++ [[.ii x18, .str a2, .str a3, .ii f6, .ow 3 o2]] : RR)
  have y3 : r29 = List.map eoBox ((List.map (boxR xs) (List.take k (insF (boxQ xs) GRec.Valid (xs.take i)))) ++ ([(⟨x18, a2, a3, f6, mailsR x18 xs⟩ : GBox)])) := by rw [y9]; exact app_eq hR2 (by simp only [t0]; rfl)
  have C8 := rlen_map hA y3
  refine go_drawE [0, 1, 2, 3, 4, 5, 6, 7, 8, 9, 10, 11, 12, 13, 14, 15, 16, 17, 18, 19, 20, 21, 22, 23, 24, 25, 26, 27, 28] (by cbv) rfl rfl ({ sl := [.sl 9 b3, .bad, .pt 2 0 0, .pt 3 0 0, .own 16, .bad, .bad, .bad, .bad, .ii n2, .pt 10 0 0, .bad, .bad, .bad, .bad, .bad, .bad, .bad, .bad, .bad, .bad, .bad, .bad, .bad, .bad, .bad, .bad, .bad, .bad, .bad, .bad, .bad, .bad, .bad, .bad, .bad, .bad, .bad, .bad, .bad, .bad, .bad, .bad, .bad, .bad, .bad, .ii n2, .own 16, .ii (A.rlen R), .bool (A.cmp .lss n2 (A.rlen R)), .bad, .bad, .sl 9 b3, .own 16, .ii n2, .pt 16 (Int.toNat n2) 0, .ii x18, .agg [.ii e6, .ii b9, .ii b6, .ii d0, .ii c9, .ii b7, .str a2, .str a3, .str c0], .pt 3 0 0, .bad, .own 16, .ii n2, .pt 16 (Int.toNat n2) 0, .ii x18, .pt 10 0 1, .pt 10 0 6, .str a2, .pt 10 0 1, .pt 10 0 7, .str a3, .sl 9 b3, .own 16, .ii n2, .pt 16 (Int.toNat n2) 0, .ii x18, .ii f6, .sl 9 b3, .own 16, .ii n2, .pt 16 (Int.toNat n2) 0, .ii x18, .bad, .agg [.ii x18, .str a2, .str a3, .ii f6, .bad], .bad, .own 7003, .pt 3 0 0, .bad], bl := [(2, ⟨.var, 1, [[.zc]]⟩), (3, ⟨.var, 1, [[.own 7003]]⟩), (10, ⟨.var, 9, [[.ii e6, .ii b9, .ii b6, .ii d0, .ii c9, .ii b7, .str a2, .str a3, .str c0]]⟩), (16, ⟨.arr, 1, R⟩), (7003, ⟨.arr, 5, r29⟩)] } : St) (fun dR dK dhR dhF => ?_) ?_
  ·
   have t2 : ∀ (dn : Nat), cntF [true, true, true, true, true, true, true, true, true, true, true, true, true, true, true, true, true, true, true, true, true, true, true, true, true, true, true, true, true] = dn → dwp T ⟨Real Tryz.prog, RealM Tryz.prog, RealC Tryz.prog⟩ dR dK dn [true, true, true, true, true, true, true, true, true, true, true, true, true, true, true, true, true, true, true, true, true, true, true, true, true, true, true, true, true] ({ sl := [.sl 9 b3, .bad, .pt 2 0 0, .pt 3 0 0, .own 16, .bad, .bad, .bad, .bad, .ii n2, .pt 10 0 0, .bad, .bad, .bad, .bad, .bad, .bad, .bad, .bad, .bad, .bad, .bad, .bad, .bad, .bad, .bad, .bad, .bad, .bad, .bad, .bad, .bad, .bad, .bad, .bad, .bad, .bad, .bad, .bad, .bad, .bad, .bad, .bad, .bad, .bad, .bad, .ii n2, .own 16, .ii (A.rlen R), .bool (A.cmp .lss n2 (A.rlen R)), .bad, .bad, .sl 9 b3, .own 16, .ii n2, .pt 16 (Int.toNat n2) 0, .ii x18, .agg [.ii e6, .ii b9, .ii b6, .ii d0, .ii c9, .ii b7, .str a2, .str a3, .str c0], .pt 3 0 0, .bad, .own 16, .ii n2, .pt 16 (Int.toNat n2) 0, .ii x18, .pt 10 0 1, .pt 10 0 6, .str a2, .pt 10 0 1, .pt 10 0 7, .str a3, .sl 9 b3, .own 16, .ii n2, .pt 16 (Int.toNat n2) 0, .ii x18, .ii f6, .sl 9 b3, .own 16, .ii n2, .pt 16 (Int.toNat n2) 0, .ii x18, .bad, .agg [.ii x18, .str a2, .str a3, .ii f6, .bad], .bad, .own 7003, .pt 3 0 0, .bad], bl := [(2, ⟨.var, 1, [[.zc]]⟩), (3, ⟨.var, 1, [[.own 7003]]⟩), (10, ⟨.var, 9, [[.ii e6, .ii b9, .ii b6, .ii d0, .ii c9, .ii b7, .str a2, .str a3, .str c0]]⟩), (16, ⟨.arr, 1, R⟩), (7003, ⟨.arr, 5, r29⟩)] } : St) := by
    intro dn
    induction dn with
    | zero =>
     intro  dhn
     exact dwp_last dhF
    | succ dn ih =>
     intro  dhn
     subst dhR
     refine dwp_next (is := [0, 1, 2, 3, 4, 5, 6, 7, 8, 9, 10, 11, 12, 13, 14, 15, 16, 17, 18, 19, 20, 21, 22, 23, 24, 25, 26, 27, 28]) rfl ?_
     refine allRdy_none rfl ?_
     refine allRdy_none rfl ?_
     refine allRdy_none rfl ?_
     refine allRdy_none rfl ?_
     refine allRdy_none rfl ?_
     refine allRdy_none rfl ?_
     refine allRdy_none rfl ?_
     refine allRdy_none rfl ?_
     refine allRdy_none rfl ?_
     refine allRdy_none rfl ?_
     refine allRdy_none rfl ?_
     refine allRdy_none rfl ?_
     refine allRdy_none rfl ?_
     refine allRdy_none rfl ?_
     refine allRdy_none rfl ?_
     refine allRdy_none rfl ?_
     refine allRdy_none rfl ?_
     refine allRdy_none rfl ?_
     refine allRdy_none rfl ?_
     refine allRdy_none rfl ?_
     refine allRdy_none rfl ?_
     refine allRdy_none rfl ?_
     refine allRdy_none rfl ?_
     refine allRdy_none rfl ?_
     refine allRdy_none rfl ?_
     refine allRdy_none rfl ?_
     refine allRdy_none rfl ?_
     refine allRdy_none rfl ?_
     refine allRdy_none rfl ?_
     exact trivial
   have u5 : ∀ (dn : Nat) {r6 : Bool} {v2 : PV}, (r6 = true → v2 = .pt 3 0 0) → cntF [true, true, true, true, true, true, true, true, true, true, true, true, true, true, true, true, true, true, true, true, true, true, true, true, true, true, true, r6, false] = dn → dwp T ⟨Real Tryz.prog, RealM Tryz.prog, RealC Tryz.prog⟩ dR dK dn [true, true, true, true, true, true, true, true, true, true, true, true, true, true, true, true, true, true, true, true, true, true, true, true, true, true, true, r6, false] ({ sl := [.sl 9 b3, .bad, .pt 2 0 0, .pt 3 0 0, .own 16, .bad, .bad, .bad, .bad, .ii n2, .pt 10 0 0, .bad, .bad, .bad, .bad, .bad, .bad, .bad, .bad, .bad, .bad, .bad, .bad, .bad, .bad, .bad, .bad, .bad, .bad, .bad, .bad, .bad, .bad, .bad, .bad, .bad, .bad, .bad, .bad, .bad, .bad, .bad, .bad, .bad, .bad, .bad, .ii n2, .own 16, .ii (A.rlen R), .bool (A.cmp .lss n2 (A.rlen R)), .bad, .bad, .sl 9 b3, .own 16, .ii n2, .pt 16 (Int.toNat n2) 0, .ii x18, .agg [.ii e6, .ii b9, .ii b6, .ii d0, .ii c9, .ii b7, .str a2, .str a3, .str c0], .pt 3 0 0, .bad, .own 16, .ii n2, .pt 16 (Int.toNat n2) 0, .ii x18, .pt 10 0 1, .pt 10 0 6, .str a2, .pt 10 0 1, .pt 10 0 7, .str a3, .sl 9 b3, .own 16, .ii n2, .pt 16 (Int.toNat n2) 0, .ii x18, .ii f6, .sl 9 b3, .own 16, .ii n2, .pt 16 (Int.toNat n2) 0, .ii x18, .bad, .agg [.ii x18, .str a2, .str a3, .ii f6, .bad], .bad, .own 7003, v2, .bad], bl := [(2, ⟨.var, 1, [[.zc]]⟩), (3, ⟨.var, 1, [[.bad]]⟩), (10, ⟨.var, 9, [[.ii e6, .ii b9, .ii b6, .ii d0, .ii c9, .ii b7, .str a2, .str a3, .str c0]]⟩), (16, ⟨.arr, 1, R⟩), (7003, ⟨.arr, 5, r29⟩)] } : St) := by
    intro dn
    induction dn with
    | zero =>
     intro r6 v2 y5 dhn
     exact absurd (show false = true from cntF_zero  _ dhn 28 (by show 28 < 29; decide)) (by decide)
    | succ dn ih =>
     intro r6 v2 y5 dhn
     subst dhR
     refine dwp_next (is := [0, 1, 2, 3, 4, 5, 6, 7, 8, 9, 10, 11, 12, 13, 14, 15, 16, 17, 18, 19, 20, 21, 22, 23, 24, 25, 26, 27, 28]) rfl ?_
     refine allRdy_none rfl ?_
     refine allRdy_none rfl ?_
     refine allRdy_none rfl ?_
     refine allRdy_none rfl ?_
     refine allRdy_none rfl ?_
     refine allRdy_none rfl ?_
     refine allRdy_none rfl ?_
     refine allRdy_none rfl ?_
     refine allRdy_none rfl ?_
     refine allRdy_none rfl ?_
     refine allRdy_none rfl ?_
     refine allRdy_none rfl ?_
     refine allRdy_none rfl ?_
     refine allRdy_none rfl ?_
     refine allRdy_none rfl ?_
     refine allRdy_none rfl ?_
     refine allRdy_none rfl ?_
     refine allRdy_none rfl ?_
     refine allRdy_none rfl ?_
     refine allRdy_none rfl ?_
     refine allRdy_none rfl ?_
     refine allRdy_none rfl ?_
     refine allRdy_none rfl ?_
     refine allRdy_none rfl ?_
     refine allRdy_none rfl ?_
     refine allRdy_none rfl ?_
     refine allRdy_none rfl ?_
     refine allRdy_q rfl rfl (fun h0 h1 => ?_) ?_
     ·
      cases (show r6 = false from h0)
      refine rn hA 1 ?_
      refine ow_ ?_
      exact ih (fun _ => rfl) (cnt_dec h0 (by show 27 < 29; decide) dhn)
     refine allRdy_q rfl rfl (fun h0 h1 => ?_) ?_
     ·
      obtain rfl : r6 = true := h1.1
      obtain rfl := y5 rfl
      refine rn hA 1 ?_
      refine ow_ ?_
      exact t2 dn (cnt_dec h0 (by show 28 < 29; decide) dhn)
     exact trivial
   have x4 : ∀ (dn : Nat) {dB0 dB1 : Bool} {dQ0 dQ1 : PV}, (dB0 = true → dQ0 = .pt 3 0 0) → (dB1 = true → dQ1 = .own 7003) → (dB1 = true → dB0 = true) → cntF [dB0, dB1, true, true, true, true, true, true, true, true, true, true, true, true, true, true, true, true, true, true, true, true, true, true, true, true, false, false, false] = dn → dwp T ⟨Real Tryz.prog, RealM Tryz.prog, RealC Tryz.prog⟩ dR dK dn [dB0, dB1, true, true, true, true, true, true, true, true, true, true, true, true, true, true, true, true, true, true, true, true, true, true, true, true, false, false, false] ({ sl := [.sl 9 b3, .bad, .pt 2 0 0, .pt 3 0 0, .own 16, .bad, .bad, .bad, .bad, .ii n2, .pt 10 0 0, .bad, .bad, .bad, .bad, .bad, .bad, .bad, .bad, .bad, .bad, .bad, .bad, .bad, .bad, .bad, .bad, .bad, .bad, .bad, .bad, .bad, .bad, .bad, .bad, .bad, .bad, .bad, .bad, .bad, .bad, .bad, .bad, .bad, .bad, .bad, .ii n2, .own 16, .ii (A.rlen R), .bool (A.cmp .lss n2 (A.rlen R)), .bad, .bad, .sl 9 b3, .own 16, .ii n2, .pt 16 (Int.toNat n2) 0, .ii x18, .agg [.ii e6, .ii b9, .ii b6, .ii d0, .ii c9, .ii b7, .str a2, .str a3, .str c0], dQ0, dQ1, .own 16, .ii n2, .pt 16 (Int.toNat n2) 0, .ii x18, .pt 10 0 1, .pt 10 0 6, .str a2, .pt 10 0 1, .pt 10 0 7, .str a3, .sl 9 b3, .own 16, .ii n2, .pt 16 (Int.toNat n2) 0, .ii x18, .ii f6, .sl 9 b3, .own 16, .ii n2, .pt 16 (Int.toNat n2) 0, .ii x18, .own 81, .agg [.ii x18, .str a2, .str a3, .ii f6, .own 81], .own 83, .bad, .bad, .bad], bl := [(2, ⟨.var, 1, [[.zc]]⟩), (3, ⟨.var, 1, [[.own 7003]]⟩), (10, ⟨.var, 9, [[.ii e6, .ii b9, .ii b6, .ii d0, .ii c9, .ii b7, .str a2, .str a3, .str c0]]⟩), (16, ⟨.arr, 1, R⟩), (81, ⟨.arr, 3, o2⟩), (83, ⟨.lit, 5, [[.ii x18, .str a2, .str a3, .ii f6, .own 81]]⟩), (7003, ⟨.arr, 5, R2⟩)] } : St) := by
    intro dn
    induction dn with
    | zero =>
     intro dB0 dB1 dQ0 dQ1 dh0 dh1 d2 dhn
     exact absurd (show false = true from cntF_zero  _ dhn 26 (by show 26 < 29; decide)) (by decide)
    | succ dn ih =>
     intro dB0 dB1 dQ0 dQ1 dh0 dh1 d2 dhn
     subst dhR
     refine dwp_next (is := [0, 1, 2, 3, 4, 5, 6, 7, 8, 9, 10, 11, 12, 13, 14, 15, 16, 17, 18, 19, 20, 21, 22, 23, 24, 25, 26, 27, 28]) rfl ?_
     refine allRdy_q rfl rfl (fun h0 h1 => ?_) ?_
     ·
      cases (show dB0 = false from h0)
      refine rn hA 1 ?_
      refine ow_ ?_
      exact ih (fun _ => rfl) dh1 (fun _ => rfl) (cnt_dec h0 (by show 0 < 29; decide) dhn)
     refine allRdy_q rfl rfl (fun h0 h1 => ?_) ?_
     ·
      cases (show dB1 = false from h0)
      obtain rfl : dB0 = true := h1.1
      obtain rfl := dh0 rfl
      refine rn hA 1 ?_
      refine ow_ ?_
      exact ih (fun _ => rfl) (fun _ => rfl) (fun _ => rfl) (cnt_dec h0 (by show 1 < 29; decide) dhn)
     refine allRdy_none rfl ?_
     refine allRdy_none rfl ?_
     refine allRdy_none rfl ?_
     refine allRdy_none rfl ?_
     refine allRdy_none rfl ?_
     refine allRdy_none rfl ?_
     refine allRdy_none rfl ?_
     refine allRdy_none rfl ?_
     refine allRdy_none rfl ?_
     refine allRdy_none rfl ?_
     refine allRdy_none rfl ?_
     refine allRdy_none rfl ?_
     refine allRdy_none rfl ?_
     refine allRdy_none rfl ?_
     refine allRdy_none rfl ?_
     refine allRdy_none rfl ?_
     refine allRdy_none rfl ?_
     refine allRdy_none rfl ?_
     refine allRdy_none rfl ?_
     refine allRdy_none rfl ?_
     refine allRdy_none rfl ?_
     refine allRdy_none rfl ?_
     refine allRdy_none rfl ?_
     refine allRdy_none rfl ?_
     refine allRdy_q rfl rfl (fun h0 h1 => ?_) ?_
     ·
      obtain rfl : dB1 = true := h1.1
      obtain rfl := dh1 rfl
      obtain rfl : dB0 = true := d2 rfl
      obtain rfl := dh0 rfl
      refine ops_step rfl rfl (app_own rfl rfl rfl rfl rfl rfl rfl rfl y9 (by cbv) (by cbv) (by cbv) rfl (by
       show (List.length R2 + List.length ([[.ii x18, .str a2, .str a3, .ii f6, .ow 3 o2]])) * _ ≤ _
       have h1 := insF_lt (boxQ xs) GRec.Valid xs i
       show (List.length R2 + 1) * 72 ≤ _
       rw [hR2, List.length_map, List.length_map, List.length_take]; omega) (by decide) (by decide)) ?_
      refine ow_ ?_
      exact u5 dn (fun h => absurd h (by decide)) (cnt_dec h0 (by show 26 < 29; decide) dhn)
     refine allRdy_q rfl rfl (fun _ h1 => absurd (show false = true from h1.2.2.2.2.2.2.2.2.2.2.2.2.2.2.2.2.2.2.2.2.2.2.2.2.2.2.1) (by decide)) ?_
     refine allRdy_q rfl rfl (fun _ h1 => absurd (show false = true from h1.1) (by decide)) ?_
     exact trivial
   have B6 : ∀ (dn : Nat) {dB0 dB1 dB2 dB3 dB4 dB5 dB6 dB7 dB8 dB9 d6 j1 o8 : Bool} {dQ0 dQ1 dQ2 dQ3 dQ4 dQ5 dQ6 dQ7 dQ8 dQ9 i6 q2 u3 : PV}, (dB0 = true → dQ0 = .pt 3 0 0) → (dB1 = true → dQ1 = .own 7003) → (dB2 = true → dQ2 = .own 16) → (dB3 = true → dQ3 = .ii n2) → (dB4 = true → dQ4 = .pt 16 (Int.toNat n2) 0) → (dB5 = true → dQ5 = .ii x18) → (dB6 = true → dQ6 = .pt 10 0 1) → (dB7 = true → dQ7 = .pt 10 0 6) → (dB8 = true → dQ8 = .str a2) → (dB9 = true → dQ9 = .pt 10 0 1) → (d6 = true → i6 = .pt 10 0 7) → (j1 = true → q2 = .str a3) → (o8 = true → u3 = .agg [.ii x18, .str a2, .str a3, .ii f6, .own 81]) → (dB1 = true → dB0 = true) → (dB4 = true → dB2 = true) → (dB4 = true → dB3 = true) → (dB5 = true → dB4 = true) → (dB7 = true → dB6 = true) → (dB8 = true → dB7 = true) → (d6 = true → dB9 = true) → (j1 = true → d6 = true) → (o8 = true → dB5 = true) → (o8 = true → dB8 = true) → (o8 = true → j1 = true) → cntF [dB0, dB1, dB2, dB3, dB4, dB5, dB6, dB7, dB8, dB9, d6, j1, true, true, true, true, true, true, true, true, true, true, true, true, o8, false, false, false, false] = dn → dwp T ⟨Real Tryz.prog, RealM Tryz.prog, RealC Tryz.prog⟩ dR dK dn [dB0, dB1, dB2, dB3, dB4, dB5, dB6, dB7, dB8, dB9, d6, j1, true, true, true, true, true, true, true, true, true, true, true, true, o8, false, false, false, false] ({ sl := [.sl 9 b3, .bad, .pt 2 0 0, .pt 3 0 0, .own 16, .bad, .bad, .bad, .bad, .ii n2, .pt 10 0 0, .bad, .bad, .bad, .bad, .bad, .bad, .bad, .bad, .bad, .bad, .bad, .bad, .bad, .bad, .bad, .bad, .bad, .bad, .bad, .bad, .bad, .bad, .bad, .bad, .bad, .bad, .bad, .bad, .bad, .bad, .bad, .bad, .bad, .bad, .bad, .ii n2, .own 16, .ii (A.rlen R), .bool (A.cmp .lss n2 (A.rlen R)), .bad, .bad, .sl 9 b3, .own 16, .ii n2, .pt 16 (Int.toNat n2) 0, .ii x18, .agg [.ii e6, .ii b9, .ii b6, .ii d0, .ii c9, .ii b7, .str a2, .str a3, .str c0], dQ0, dQ1, dQ2, dQ3, dQ4, dQ5, dQ6, dQ7, dQ8, dQ9, i6, q2, .sl 9 b3, .own 16, .ii n2, .pt 16 (Int.toNat n2) 0, .ii x18, .ii f6, .sl 9 b3, .own 16, .ii n2, .pt 16 (Int.toNat n2) 0, .ii x18, .own 81, u3, .bad, .bad, .bad, .bad], bl := [(2, ⟨.var, 1, [[.zc]]⟩), (3, ⟨.var, 1, [[.own 7003]]⟩), (10, ⟨.var, 9, [[.ii e6, .ii b9, .ii b6, .ii d0, .ii c9, .ii b7, .str a2, .str a3, .str c0]]⟩), (16, ⟨.arr, 1, R⟩), (81, ⟨.arr, 3, o2⟩), (7003, ⟨.arr, 5, R2⟩)] } : St) := by
    intro dn
    induction dn with
    | zero =>
     intro dB0 dB1 dB2 dB3 dB4 dB5 dB6 dB7 dB8 dB9 d6 j1 o8 dQ0 dQ1 dQ2 dQ3 dQ4 dQ5 dQ6 dQ7 dQ8 dQ9 i6 q2 u3 dh0 dh1 dh2 dh3 dh4 dh5 dh6 dh7 dh8 dh9 b5 e5 l8 d2 d3 d5 b2 d4 b1 a4 b4 i2 i4 i0 dhn
     exact absurd (show false = true from cntF_zero  _ dhn 25 (by show 25 < 29; decide)) (by decide)
    | succ dn ih =>
     intro dB0 dB1 dB2 dB3 dB4 dB5 dB6 dB7 dB8 dB9 d6 j1 o8 dQ0 dQ1 dQ2 dQ3 dQ4 dQ5 dQ6 dQ7 dQ8 dQ9 i6 q2 u3 dh0 dh1 dh2 dh3 dh4 dh5 dh6 dh7 dh8 dh9 b5 e5 l8 d2 d3 d5 b2 d4 b1 a4 b4 i2 i4 i0 dhn
     subst dhR
     refine dwp_next (is := [0, 1, 2, 3, 4, 5, 6, 7, 8, 9, 10, 11, 12, 13, 14, 15, 16, 17, 18, 19, 20, 21, 22, 23, 24, 25, 26, 27, 28]) rfl ?_
     refine allRdy_q rfl rfl (fun h0 h1 => ?_) ?_
     ·
      cases (show dB0 = false from h0)
      refine rn hA 1 ?_
      refine ow_ ?_
      exact ih (fun _ => rfl) dh1 dh2 dh3 dh4 dh5 dh6 dh7 dh8 dh9 b5 e5 l8 (fun _ => rfl) d3 d5 b2 d4 b1 a4 b4 i2 i4 i0 (cnt_dec h0 (by show 0 < 29; decide) dhn)
     refine allRdy_q rfl rfl (fun h0 h1 => ?_) ?_
     ·
      cases (show dB1 = false from h0)
      obtain rfl : dB0 = true := h1.1
      obtain rfl := dh0 rfl
      refine rn hA 1 ?_
      refine ow_ ?_
      exact ih (fun _ => rfl) (fun _ => rfl) dh2 dh3 dh4 dh5 dh6 dh7 dh8 dh9 b5 e5 l8 (fun _ => rfl) d3 d5 b2 d4 b1 a4 b4 i2 i4 i0 (cnt_dec h0 (by show 1 < 29; decide) dhn)
     refine allRdy_q rfl rfl (fun h0 h1 => ?_) ?_
     ·
      cases (show dB2 = false from h0)
      refine rn hA 1 ?_
      refine ow_ ?_
      exact ih dh0 dh1 (fun _ => rfl) dh3 dh4 dh5 dh6 dh7 dh8 dh9 b5 e5 l8 d2 (fun _ => rfl) d5 b2 d4 b1 a4 b4 i2 i4 i0 (cnt_dec h0 (by show 2 < 29; decide) dhn)
     refine allRdy_q rfl rfl (fun h0 h1 => ?_) ?_
     ·
      cases (show dB3 = false from h0)
      refine rn hA 1 ?_
      refine ow_ ?_
      exact ih dh0 dh1 dh2 (fun _ => rfl) dh4 dh5 dh6 dh7 dh8 dh9 b5 e5 l8 d2 d3 (fun _ => rfl) b2 d4 b1 a4 b4 i2 i4 i0 (cnt_dec h0 (by show 3 < 29; decide) dhn)
     refine allRdy_q rfl rfl (fun h0 h1 => ?_) ?_
     ·
      cases (show dB4 = false from h0)
      obtain rfl : dB2 = true := h1.1
      obtain rfl := dh2 rfl
      obtain rfl : dB3 = true := h1.2.1
      obtain rfl := dh3 rfl
      refine ops_step rfl rfl (idx_own rfl rfl rfl rfl rfl rfl s2 v5 rfl) ?_
      refine ow_ ?_
      exact ih dh0 dh1 (fun _ => rfl) (fun _ => rfl) (fun _ => rfl) dh5 dh6 dh7 dh8 dh9 b5 e5 l8 d2 (fun _ => rfl) (fun _ => rfl) (fun _ => rfl) d4 b1 a4 b4 i2 i4 i0 (cnt_dec h0 (by show 4 < 29; decide) dhn)
     refine allRdy_q rfl rfl (fun h0 h1 => ?_) ?_
     ·
      cases (show dB5 = false from h0)
      obtain rfl : dB4 = true := h1.1
      obtain rfl := dh4 rfl
      obtain rfl : dB2 = true := d3 rfl
      obtain rfl := dh2 rfl
      obtain rfl : dB3 = true := d5 rfl
      obtain rfl := dh3 rfl
      refine ops_step rfl rfl (ld_arr rfl rfl rfl rfl s5 rfl) ?_
      refine ow_ ?_
      exact ih dh0 dh1 (fun _ => rfl) (fun _ => rfl) (fun _ => rfl) (fun _ => rfl) dh6 dh7 dh8 dh9 b5 e5 l8 d2 (fun _ => rfl) (fun _ => rfl) (fun _ => rfl) d4 b1 a4 b4 (fun _ => rfl) i4 i0 (cnt_dec h0 (by show 5 < 29; decide) dhn)
     refine allRdy_q rfl rfl (fun h0 h1 => ?_) ?_
     ·
      cases (show dB6 = false from h0)
      refine rn hA 1 ?_
      refine ow_ ?_
      exact ih dh0 dh1 dh2 dh3 dh4 dh5 (fun _ => rfl) dh7 dh8 dh9 b5 e5 l8 d2 d3 d5 b2 (fun _ => rfl) b1 a4 b4 i2 i4 i0 (cnt_dec h0 (by show 6 < 29; decide) dhn)
     refine allRdy_q rfl rfl (fun h0 h1 => ?_) ?_
     ·
      cases (show dB7 = false from h0)
      obtain rfl : dB6 = true := h1.1
      obtain rfl := dh6 rfl
      refine rn hA 1 ?_
      refine ow_ ?_
      exact ih dh0 dh1 dh2 dh3 dh4 dh5 (fun _ => rfl) (fun _ => rfl) dh8 dh9 b5 e5 l8 d2 d3 d5 b2 (fun _ => rfl) (fun _ => rfl) a4 b4 i2 i4 i0 (cnt_dec h0 (by show 7 < 29; decide) dhn)
     refine allRdy_q rfl rfl (fun h0 h1 => ?_) ?_
     ·
      cases (show dB8 = false from h0)
      obtain rfl : dB7 = true := h1.1
      obtain rfl := dh7 rfl
      obtain rfl : dB6 = true := d4 rfl
      obtain rfl := dh6 rfl
      refine rn hA 1 ?_
      refine ow_ ?_
      exact ih dh0 dh1 dh2 dh3 dh4 dh5 (fun _ => rfl) (fun _ => rfl) (fun _ => rfl) dh9 b5 e5 l8 d2 d3 d5 b2 (fun _ => rfl) (fun _ => rfl) a4 b4 i2 (fun _ => rfl) i0 (cnt_dec h0 (by show 8 < 29; decide) dhn)
     refine allRdy_q rfl rfl (fun h0 h1 => ?_) ?_
     ·
      cases (show dB9 = false from h0)
      refine rn hA 1 ?_
      refine ow_ ?_
      exact ih dh0 dh1 dh2 dh3 dh4 dh5 dh6 dh7 dh8 (fun _ => rfl) b5 e5 l8 d2 d3 d5 b2 d4 b1 (fun _ => rfl) b4 i2 i4 i0 (cnt_dec h0 (by show 9 < 29; decide) dhn)
     refine allRdy_q rfl rfl (fun h0 h1 => ?_) ?_
     ·
      cases (show d6 = false from h0)
      obtain rfl : dB9 = true := h1.1
      obtain rfl := dh9 rfl
      refine rn hA 1 ?_
      refine ow_ ?_
      exact ih dh0 dh1 dh2 dh3 dh4 dh5 dh6 dh7 dh8 (fun _ => rfl) (fun _ => rfl) e5 l8 d2 d3 d5 b2 d4 b1 (fun _ => rfl) (fun _ => rfl) i2 i4 i0 (cnt_dec h0 (by show 10 < 29; decide) dhn)
     refine allRdy_q rfl rfl (fun h0 h1 => ?_) ?_
     ·
      cases (show j1 = false from h0)
      obtain rfl : d6 = true := h1.1
      obtain rfl := b5 rfl
      obtain rfl : dB9 = true := a4 rfl
      obtain rfl := dh9 rfl
      refine rn hA 1 ?_
      refine ow_ ?_
      exact ih dh0 dh1 dh2 dh3 dh4 dh5 dh6 dh7 dh8 (fun _ => rfl) (fun _ => rfl) (fun _ => rfl) l8 d2 d3 d5 b2 d4 b1 (fun _ => rfl) (fun _ => rfl) i2 i4 (fun _ => rfl) (cnt_dec h0 (by show 11 < 29; decide) dhn)
     refine allRdy_none rfl ?_
     refine allRdy_none rfl ?_
     refine allRdy_none rfl ?_
     refine allRdy_none rfl ?_
     refine allRdy_none rfl ?_
     refine allRdy_none rfl ?_
     refine allRdy_none rfl ?_
     refine allRdy_none rfl ?_
     refine allRdy_none rfl ?_
     refine allRdy_none rfl ?_
     refine allRdy_none rfl ?_
     refine allRdy_none rfl ?_
     refine allRdy_q rfl rfl (fun h0 h1 => ?_) ?_
     ·
      cases (show o8 = false from h0)
      obtain rfl : dB5 = true := h1.1
      obtain rfl := dh5 rfl
      obtain rfl : dB4 = true := b2 rfl
      obtain rfl := dh4 rfl
      obtain rfl : dB2 = true := d3 rfl
      obtain rfl := dh2 rfl
      obtain rfl : dB3 = true := d5 rfl
      obtain rfl := dh3 rfl
      obtain rfl : dB8 = true := h1.2.1
      obtain rfl := dh8 rfl
      obtain rfl : dB7 = true := b1 rfl
      obtain rfl := dh7 rfl
      obtain rfl : dB6 = true := d4 rfl
      obtain rfl := dh6 rfl
      obtain rfl : j1 = true := h1.2.2.1
      obtain rfl := e5 rfl
      obtain rfl : d6 = true := b4 rfl
      obtain rfl := b5 rfl
      obtain rfl : dB9 = true := a4 rfl
      obtain rfl := dh9 rfl
      refine rn hA 1 ?_
      refine ow_ ?_
      exact ih dh0 dh1 (fun _ => rfl) (fun _ => rfl) (fun _ => rfl) (fun _ => rfl) (fun _ => rfl) (fun _ => rfl) (fun _ => rfl) (fun _ => rfl) (fun _ => rfl) (fun _ => rfl) (fun _ => rfl) d2 (fun _ => rfl) (fun _ => rfl) (fun _ => rfl) (fun _ => rfl) (fun _ => rfl) (fun _ => rfl) (fun _ => rfl) (fun _ => rfl) (fun _ => rfl) (fun _ => rfl) (cnt_dec h0 (by show 24 < 29; decide) dhn)
     refine allRdy_q rfl rfl (fun h0 h1 => ?_) ?_
     ·
      obtain rfl : o8 = true := h1.1
      obtain rfl := l8 rfl
      obtain rfl : dB5 = true := i2 rfl
      obtain rfl := dh5 rfl
      obtain rfl : dB4 = true := b2 rfl
      obtain rfl := dh4 rfl
      obtain rfl : dB2 = true := d3 rfl
      obtain rfl := dh2 rfl
      obtain rfl : dB3 = true := d5 rfl
      obtain rfl := dh3 rfl
      obtain rfl : dB8 = true := i4 rfl
      obtain rfl := dh8 rfl
      obtain rfl : dB7 = true := b1 rfl
      obtain rfl := dh7 rfl
      obtain rfl : dB6 = true := d4 rfl
      obtain rfl := dh6 rfl
      obtain rfl : j1 = true := i0 rfl
      obtain rfl := e5 rfl
      obtain rfl : d6 = true := b4 rfl
      obtain rfl := b5 rfl
      obtain rfl : dB9 = true := a4 rfl
      obtain rfl := dh9 rfl
      refine rn hA 1 ?_
      refine ops_done (dwp_to [.up 7003, .up 83, .up 81, .up 16, .up 10, .up 3, .up 2] (by cbv) rfl ?_)
      exact x4 dn dh0 dh1 d2 (cnt_dec h0 (by show 25 < 29; decide) dhn)
     refine allRdy_q rfl rfl (fun _ h1 => absurd (show false = true from h1.2.1) (by decide)) ?_
     refine allRdy_q rfl rfl (fun _ h1 => absurd (show false = true from h1.2.2.2.2.2.2.2.2.2.2.2.2.2.2.2.2.2.2.2.2.2.2.2.2.2.1) (by decide)) ?_
     refine allRdy_q rfl rfl (fun _ h1 => absurd (show false = true from h1.1) (by decide)) ?_
     exact trivial
   have H_ : ∀ (dn : Nat) {dB0 dB1 dB2 dB3 dB4 dB5 dB6 dB7 dB8 dB9 d6 j1 q1 o3 o4 n7 p6 q3 r8 o6 o9 o0 q7 : Bool} {dQ0 dQ1 dQ2 dQ3 dQ4 dQ5 dQ6 dQ7 dQ8 dQ9 i6 q2 u4 v0 u9 u8 u0 u2 v3 u7 v1 u6 u1 : PV}, (dB0 = true → dQ0 = .pt 3 0 0) → (dB1 = true → dQ1 = .own 7003) → (dB2 = true → dQ2 = .own 16) → (dB3 = true → dQ3 = .ii n2) → (dB4 = true → dQ4 = .pt 16 (Int.toNat n2) 0) → (dB5 = true → dQ5 = .ii x18) → (dB6 = true → dQ6 = .pt 10 0 1) → (dB7 = true → dQ7 = .pt 10 0 6) → (dB8 = true → dQ8 = .str a2) → (dB9 = true → dQ9 = .pt 10 0 1) → (d6 = true → i6 = .pt 10 0 7) → (j1 = true → q2 = .str a3) → (q1 = true → u4 = .sl 9 b3) → (o3 = true → v0 = .own 16) → (o4 = true → u9 = .ii n2) → (n7 = true → u8 = .pt 16 (Int.toNat n2) 0) → (p6 = true → u0 = .ii x18) → (q3 = true → u2 = .ii f6) → (r8 = true → v3 = .sl 9 b3) → (o6 = true → u7 = .own 16) → (o9 = true → v1 = .ii n2) → (o0 = true → u6 = .pt 16 (Int.toNat n2) 0) → (q7 = true → u1 = .ii x18) → (dB1 = true → dB0 = true) → (dB4 = true → dB2 = true) → (dB4 = true → dB3 = true) → (dB5 = true → dB4 = true) → (dB7 = true → dB6 = true) → (dB8 = true → dB7 = true) → (d6 = true → dB9 = true) → (j1 = true → d6 = true) → (n7 = true → o3 = true) → (n7 = true → o4 = true) → (p6 = true → n7 = true) → (q3 = true → q1 = true) → (q3 = true → p6 = true) → (o0 = true → o6 = true) → (o0 = true → o9 = true) → (q7 = true → o0 = true) → cntF [dB0, dB1, dB2, dB3, dB4, dB5, dB6, dB7, dB8, dB9, d6, j1, q1, o3, o4, n7, p6, q3, r8, o6, o9, o0, q7, false, false, false, false, false, false] = dn → dwp T ⟨Real Tryz.prog, RealM Tryz.prog, RealC Tryz.prog⟩ dR dK dn [dB0, dB1, dB2, dB3, dB4, dB5, dB6, dB7, dB8, dB9, d6, j1, q1, o3, o4, n7, p6, q3, r8, o6, o9, o0, q7, false, false, false, false, false, false] ({ sl := [.sl 9 b3, .bad, .pt 2 0 0, .pt 3 0 0, .own 16, .bad, .bad, .bad, .bad, .ii n2, .pt 10 0 0, .bad, .bad, .bad, .bad, .bad, .bad, .bad, .bad, .bad, .bad, .bad, .bad, .bad, .bad, .bad, .bad, .bad, .bad, .bad, .bad, .bad, .bad, .bad, .bad, .bad, .bad, .bad, .bad, .bad, .bad, .bad, .bad, .bad, .bad, .bad, .ii n2, .own 16, .ii (A.rlen R), .bool (A.cmp .lss n2 (A.rlen R)), .bad, .bad, .sl 9 b3, .own 16, .ii n2, .pt 16 (Int.toNat n2) 0, .ii x18, .agg [.ii e6, .ii b9, .ii b6, .ii d0, .ii c9, .ii b7, .str a2, .str a3, .str c0], dQ0, dQ1, dQ2, dQ3, dQ4, dQ5, dQ6, dQ7, dQ8, dQ9, i6, q2, u4, v0, u9, u8, u0, u2, v3, u7, v1, u6, u1, .bad, .bad, .bad, .bad, .bad, .bad], bl := [(2, ⟨.var, 1, [[.zc]]⟩), (3, ⟨.var, 1, [[.own 7003]]⟩), (10, ⟨.var, 9, [[.ii e6, .ii b9, .ii b6, .ii d0, .ii c9, .ii b7, .str a2, .str a3, .str c0]]⟩), (16, ⟨.arr, 1, R⟩), (7003, ⟨.arr, 5, R2⟩)] } : St) := by
    intro dn
    induction dn with
    | zero =>
     intro dB0 dB1 dB2 dB3 dB4 dB5 dB6 dB7 dB8 dB9 d6 j1 q1 o3 o4 n7 p6 q3 r8 o6 o9 o0 q7 dQ0 dQ1 dQ2 dQ3 dQ4 dQ5 dQ6 dQ7 dQ8 dQ9 i6 q2 u4 v0 u9 u8 u0 u2 v3 u7 v1 u6 u1 dh0 dh1 dh2 dh3 dh4 dh5 dh6 dh7 dh8 dh9 b5 e5 g7 g4 g8 f8 g1 g5 g6 g2 g3 f9 g0 d2 d3 d5 b2 d4 b1 a4 b4 d9 d7 d8 e4 e0 e1 e3 e2 dhn
     exact absurd (show false = true from cntF_zero  _ dhn 23 (by show 23 < 29; decide)) (by decide)
    | succ dn ih =>
     intro dB0 dB1 dB2 dB3 dB4 dB5 dB6 dB7 dB8 dB9 d6 j1 q1 o3 o4 n7 p6 q3 r8 o6 o9 o0 q7 dQ0 dQ1 dQ2 dQ3 dQ4 dQ5 dQ6 dQ7 dQ8 dQ9 i6 q2 u4 v0 u9 u8 u0 u2 v3 u7 v1 u6 u1 dh0 dh1 dh2 dh3 dh4 dh5 dh6 dh7 dh8 dh9 b5 e5 g7 g4 g8 f8 g1 g5 g6 g2 g3 f9 g0 d2 d3 d5 b2 d4 b1 a4 b4 d9 d7 d8 e4 e0 e1 e3 e2 dhn
     subst dhR
     refine dwp_next (is := [0, 1, 2, 3, 4, 5, 6, 7, 8, 9, 10, 11, 12, 13, 14, 15, 16, 17, 18, 19, 20, 21, 22, 23, 24, 25, 26, 27, 28]) rfl ?_
     refine allRdy_q rfl rfl (fun h0 h1 => ?_) ?_
     ·
      cases (show dB0 = false from h0)
      refine rn hA 1 ?_
      refine ow_ ?_
      exact ih (fun _ => rfl) dh1 dh2 dh3 dh4 dh5 dh6 dh7 dh8 dh9 b5 e5 g7 g4 g8 f8 g1 g5 g6 g2 g3 f9 g0 (fun _ => rfl) d3 d5 b2 d4 b1 a4 b4 d9 d7 d8 e4 e0 e1 e3 e2 (cnt_dec h0 (by show 0 < 29; decide) dhn)
     refine allRdy_q rfl rfl (fun h0 h1 => ?_) ?_
     ·
      cases (show dB1 = false from h0)
      obtain rfl : dB0 = true := h1.1
      obtain rfl := dh0 rfl
      refine rn hA 1 ?_
      refine ow_ ?_
      exact ih (fun _ => rfl) (fun _ => rfl) dh2 dh3 dh4 dh5 dh6 dh7 dh8 dh9 b5 e5 g7 g4 g8 f8 g1 g5 g6 g2 g3 f9 g0 (fun _ => rfl) d3 d5 b2 d4 b1 a4 b4 d9 d7 d8 e4 e0 e1 e3 e2 (cnt_dec h0 (by show 1 < 29; decide) dhn)
     refine allRdy_q rfl rfl (fun h0 h1 => ?_) ?_
     ·
      cases (show dB2 = false from h0)
      refine rn hA 1 ?_
      refine ow_ ?_
      exact ih dh0 dh1 (fun _ => rfl) dh3 dh4 dh5 dh6 dh7 dh8 dh9 b5 e5 g7 g4 g8 f8 g1 g5 g6 g2 g3 f9 g0 d2 (fun _ => rfl) d5 b2 d4 b1 a4 b4 d9 d7 d8 e4 e0 e1 e3 e2 (cnt_dec h0 (by show 2 < 29; decide) dhn)
     refine allRdy_q rfl rfl (fun h0 h1 => ?_) ?_
     ·
      cases (show dB3 = false from h0)
      refine rn hA 1 ?_
      refine ow_ ?_
      exact ih dh0 dh1 dh2 (fun _ => rfl) dh4 dh5 dh6 dh7 dh8 dh9 b5 e5 g7 g4 g8 f8 g1 g5 g6 g2 g3 f9 g0 d2 d3 (fun _ => rfl) b2 d4 b1 a4 b4 d9 d7 d8 e4 e0 e1 e3 e2 (cnt_dec h0 (by show 3 < 29; decide) dhn)
     refine allRdy_q rfl rfl (fun h0 h1 => ?_) ?_
     ·
      cases (show dB4 = false from h0)
      obtain rfl : dB2 = true := h1.1
      obtain rfl := dh2 rfl
      obtain rfl : dB3 = true := h1.2.1
      obtain rfl := dh3 rfl
      refine ops_step rfl rfl (idx_own rfl rfl rfl rfl rfl rfl s2 v5 rfl) ?_
      refine ow_ ?_
      exact ih dh0 dh1 (fun _ => rfl) (fun _ => rfl) (fun _ => rfl) dh5 dh6 dh7 dh8 dh9 b5 e5 g7 g4 g8 f8 g1 g5 g6 g2 g3 f9 g0 d2 (fun _ => rfl) (fun _ => rfl) (fun _ => rfl) d4 b1 a4 b4 d9 d7 d8 e4 e0 e1 e3 e2 (cnt_dec h0 (by show 4 < 29; decide) dhn)
     refine allRdy_q rfl rfl (fun h0 h1 => ?_) ?_
     ·
      cases (show dB5 = false from h0)
      obtain rfl : dB4 = true := h1.1
      obtain rfl := dh4 rfl
      obtain rfl : dB2 = true := d3 rfl
      obtain rfl := dh2 rfl
      obtain rfl : dB3 = true := d5 rfl
      obtain rfl := dh3 rfl
      refine ops_step rfl rfl (ld_arr rfl rfl rfl rfl s5 rfl) ?_
      refine ow_ ?_
      exact ih dh0 dh1 (fun _ => rfl) (fun _ => rfl) (fun _ => rfl) (fun _ => rfl) dh6 dh7 dh8 dh9 b5 e5 g7 g4 g8 f8 g1 g5 g6 g2 g3 f9 g0 d2 (fun _ => rfl) (fun _ => rfl) (fun _ => rfl) d4 b1 a4 b4 d9 d7 d8 e4 e0 e1 e3 e2 (cnt_dec h0 (by show 5 < 29; decide) dhn)
     refine allRdy_q rfl rfl (fun h0 h1 => ?_) ?_
     ·
      cases (show dB6 = false from h0)
      refine rn hA 1 ?_
      refine ow_ ?_
      exact ih dh0 dh1 dh2 dh3 dh4 dh5 (fun _ => rfl) dh7 dh8 dh9 b5 e5 g7 g4 g8 f8 g1 g5 g6 g2 g3 f9 g0 d2 d3 d5 b2 (fun _ => rfl) b1 a4 b4 d9 d7 d8 e4 e0 e1 e3 e2 (cnt_dec h0 (by show 6 < 29; decide) dhn)
     refine allRdy_q rfl rfl (fun h0 h1 => ?_) ?_
     ·
      cases (show dB7 = false from h0)
      obtain rfl : dB6 = true := h1.1
      obtain rfl := dh6 rfl
      refine rn hA 1 ?_
      refine ow_ ?_
      exact ih dh0 dh1 dh2 dh3 dh4 dh5 (fun _ => rfl) (fun _ => rfl) dh8 dh9 b5 e5 g7 g4 g8 f8 g1 g5 g6 g2 g3 f9 g0 d2 d3 d5 b2 (fun _ => rfl) (fun _ => rfl) a4 b4 d9 d7 d8 e4 e0 e1 e3 e2 (cnt_dec h0 (by show 7 < 29; decide) dhn)
     refine allRdy_q rfl rfl (fun h0 h1 => ?_) ?_
     ·
      cases (show dB8 = false from h0)
      obtain rfl : dB7 = true := h1.1
      obtain rfl := dh7 rfl
      obtain rfl : dB6 = true := d4 rfl
      obtain rfl := dh6 rfl
      refine rn hA 1 ?_
      refine ow_ ?_
      exact ih dh0 dh1 dh2 dh3 dh4 dh5 (fun _ => rfl) (fun _ => rfl) (fun _ => rfl) dh9 b5 e5 g7 g4 g8 f8 g1 g5 g6 g2 g3 f9 g0 d2 d3 d5 b2 (fun _ => rfl) (fun _ => rfl) a4 b4 d9 d7 d8 e4 e0 e1 e3 e2 (cnt_dec h0 (by show 8 < 29; decide) dhn)
     refine allRdy_q rfl rfl (fun h0 h1 => ?_) ?_
     ·
      cases (show dB9 = false from h0)
      refine rn hA 1 ?_
      refine ow_ ?_
      exact ih dh0 dh1 dh2 dh3 dh4 dh5 dh6 dh7 dh8 (fun _ => rfl) b5 e5 g7 g4 g8 f8 g1 g5 g6 g2 g3 f9 g0 d2 d3 d5 b2 d4 b1 (fun _ => rfl) b4 d9 d7 d8 e4 e0 e1 e3 e2 (cnt_dec h0 (by show 9 < 29; decide) dhn)
     refine allRdy_q rfl rfl (fun h0 h1 => ?_) ?_
     ·
      cases (show d6 = false from h0)
      obtain rfl : dB9 = true := h1.1
      obtain rfl := dh9 rfl
      refine rn hA 1 ?_
      refine ow_ ?_
      exact ih dh0 dh1 dh2 dh3 dh4 dh5 dh6 dh7 dh8 (fun _ => rfl) (fun _ => rfl) e5 g7 g4 g8 f8 g1 g5 g6 g2 g3 f9 g0 d2 d3 d5 b2 d4 b1 (fun _ => rfl) (fun _ => rfl) d9 d7 d8 e4 e0 e1 e3 e2 (cnt_dec h0 (by show 10 < 29; decide) dhn)
     refine allRdy_q rfl rfl (fun h0 h1 => ?_) ?_
     ·
      cases (show j1 = false from h0)
      obtain rfl : d6 = true := h1.1
      obtain rfl := b5 rfl
      obtain rfl : dB9 = true := a4 rfl
      obtain rfl := dh9 rfl
      refine rn hA 1 ?_
      refine ow_ ?_
      exact ih dh0 dh1 dh2 dh3 dh4 dh5 dh6 dh7 dh8 (fun _ => rfl) (fun _ => rfl) (fun _ => rfl) g7 g4 g8 f8 g1 g5 g6 g2 g3 f9 g0 d2 d3 d5 b2 d4 b1 (fun _ => rfl) (fun _ => rfl) d9 d7 d8 e4 e0 e1 e3 e2 (cnt_dec h0 (by show 11 < 29; decide) dhn)
     refine allRdy_q rfl rfl (fun h0 h1 => ?_) ?_
     ·
      cases (show q1 = false from h0)
      refine rn hA 1 ?_
      refine ow_ ?_
      exact ih dh0 dh1 dh2 dh3 dh4 dh5 dh6 dh7 dh8 dh9 b5 e5 (fun _ => rfl) g4 g8 f8 g1 g5 g6 g2 g3 f9 g0 d2 d3 d5 b2 d4 b1 a4 b4 d9 d7 d8 (fun _ => rfl) e0 e1 e3 e2 (cnt_dec h0 (by show 12 < 29; decide) dhn)
     refine allRdy_q rfl rfl (fun h0 h1 => ?_) ?_
     ·
      cases (show o3 = false from h0)
      refine rn hA 1 ?_
      refine ow_ ?_
      exact ih dh0 dh1 dh2 dh3 dh4 dh5 dh6 dh7 dh8 dh9 b5 e5 g7 (fun _ => rfl) g8 f8 g1 g5 g6 g2 g3 f9 g0 d2 d3 d5 b2 d4 b1 a4 b4 (fun _ => rfl) d7 d8 e4 e0 e1 e3 e2 (cnt_dec h0 (by show 13 < 29; decide) dhn)
     refine allRdy_q rfl rfl (fun h0 h1 => ?_) ?_
     ·
      cases (show o4 = false from h0)
      refine rn hA 1 ?_
      refine ow_ ?_
      exact ih dh0 dh1 dh2 dh3 dh4 dh5 dh6 dh7 dh8 dh9 b5 e5 g7 g4 (fun _ => rfl) f8 g1 g5 g6 g2 g3 f9 g0 d2 d3 d5 b2 d4 b1 a4 b4 d9 (fun _ => rfl) d8 e4 e0 e1 e3 e2 (cnt_dec h0 (by show 14 < 29; decide) dhn)
     refine allRdy_q rfl rfl (fun h0 h1 => ?_) ?_
     ·
      cases (show n7 = false from h0)
      obtain rfl : o3 = true := h1.1
      obtain rfl := g4 rfl
      obtain rfl : o4 = true := h1.2.1
      obtain rfl := g8 rfl
      refine ops_step rfl rfl (idx_own rfl rfl rfl rfl rfl rfl s2 y8 rfl) ?_
      refine ow_ ?_
      exact ih dh0 dh1 dh2 dh3 dh4 dh5 dh6 dh7 dh8 dh9 b5 e5 g7 (fun _ => rfl) (fun _ => rfl) (fun _ => rfl) g1 g5 g6 g2 g3 f9 g0 d2 d3 d5 b2 d4 b1 a4 b4 (fun _ => rfl) (fun _ => rfl) (fun _ => rfl) e4 e0 e1 e3 e2 (cnt_dec h0 (by show 15 < 29; decide) dhn)
     refine allRdy_q rfl rfl (fun h0 h1 => ?_) ?_
     ·
      cases (show p6 = false from h0)
      obtain rfl : n7 = true := h1.1
      obtain rfl := f8 rfl
      obtain rfl : o3 = true := d9 rfl
      obtain rfl := g4 rfl
      obtain rfl : o4 = true := d7 rfl
      obtain rfl := g8 rfl
      refine ops_step rfl rfl (ld_arr rfl rfl rfl rfl s5 rfl) ?_
      refine ow_ ?_
      exact ih dh0 dh1 dh2 dh3 dh4 dh5 dh6 dh7 dh8 dh9 b5 e5 g7 (fun _ => rfl) (fun _ => rfl) (fun _ => rfl) (fun _ => rfl) g5 g6 g2 g3 f9 g0 d2 d3 d5 b2 d4 b1 a4 b4 (fun _ => rfl) (fun _ => rfl) (fun _ => rfl) e4 (fun _ => rfl) e1 e3 e2 (cnt_dec h0 (by show 16 < 29; decide) dhn)
     refine allRdy_q rfl rfl (fun h0 h1 => ?_) ?_
     ·
      cases (show q3 = false from h0)
      obtain rfl : q1 = true := h1.1
      obtain rfl := g7 rfl
      obtain rfl : p6 = true := h1.2.1
      obtain rfl := g1 rfl
      obtain rfl : n7 = true := d8 rfl
      obtain rfl := f8 rfl
      obtain rfl : o3 = true := d9 rfl
      obtain rfl := g4 rfl
      obtain rfl : o4 = true := d7 rfl
      obtain rfl := g8 rfl
      refine ops_callV rfl rfl (by cbv) (by cbv) B5 (.inr rfl) (by cbv) ?_
      refine ow_ ?_
      exact ih dh0 dh1 dh2 dh3 dh4 dh5 dh6 dh7 dh8 dh9 b5 e5 (fun _ => rfl) (fun _ => rfl) (fun _ => rfl) (fun _ => rfl) (fun _ => rfl) (fun _ => rfl) g6 g2 g3 f9 g0 d2 d3 d5 b2 d4 b1 a4 b4 (fun _ => rfl) (fun _ => rfl) (fun _ => rfl) (fun _ => rfl) (fun _ => rfl) e1 e3 e2 (cnt_dec h0 (by show 17 < 29; decide) dhn)
     refine allRdy_q rfl rfl (fun h0 h1 => ?_) ?_
     ·
      cases (show r8 = false from h0)
      refine rn hA 1 ?_
      refine ow_ ?_
      exact ih dh0 dh1 dh2 dh3 dh4 dh5 dh6 dh7 dh8 dh9 b5 e5 g7 g4 g8 f8 g1 g5 (fun _ => rfl) g2 g3 f9 g0 d2 d3 d5 b2 d4 b1 a4 b4 d9 d7 d8 e4 e0 e1 e3 e2 (cnt_dec h0 (by show 18 < 29; decide) dhn)
     refine allRdy_q rfl rfl (fun h0 h1 => ?_) ?_
     ·
      cases (show o6 = false from h0)
      refine rn hA 1 ?_
      refine ow_ ?_
      exact ih dh0 dh1 dh2 dh3 dh4 dh5 dh6 dh7 dh8 dh9 b5 e5 g7 g4 g8 f8 g1 g5 g6 (fun _ => rfl) g3 f9 g0 d2 d3 d5 b2 d4 b1 a4 b4 d9 d7 d8 e4 e0 (fun _ => rfl) e3 e2 (cnt_dec h0 (by show 19 < 29; decide) dhn)
     refine allRdy_q rfl rfl (fun h0 h1 => ?_) ?_
     ·
      cases (show o9 = false from h0)
      refine rn hA 1 ?_
      refine ow_ ?_
      exact ih dh0 dh1 dh2 dh3 dh4 dh5 dh6 dh7 dh8 dh9 b5 e5 g7 g4 g8 f8 g1 g5 g6 g2 (fun _ => rfl) f9 g0 d2 d3 d5 b2 d4 b1 a4 b4 d9 d7 d8 e4 e0 e1 (fun _ => rfl) e2 (cnt_dec h0 (by show 20 < 29; decide) dhn)
     refine allRdy_q rfl rfl (fun h0 h1 => ?_) ?_
     ·
      cases (show o0 = false from h0)
      obtain rfl : o6 = true := h1.1
      obtain rfl := g2 rfl
      obtain rfl : o9 = true := h1.2.1
      obtain rfl := g3 rfl
      refine ops_step rfl rfl (idx_own rfl rfl rfl rfl rfl rfl s2 y4 rfl) ?_
      refine ow_ ?_
      exact ih dh0 dh1 dh2 dh3 dh4 dh5 dh6 dh7 dh8 dh9 b5 e5 g7 g4 g8 f8 g1 g5 g6 (fun _ => rfl) (fun _ => rfl) (fun _ => rfl) g0 d2 d3 d5 b2 d4 b1 a4 b4 d9 d7 d8 e4 e0 (fun _ => rfl) (fun _ => rfl) (fun _ => rfl) (cnt_dec h0 (by show 21 < 29; decide) dhn)
     refine allRdy_q rfl rfl (fun h0 h1 => ?_) ?_
     ·
      cases (show q7 = false from h0)
      obtain rfl : o0 = true := h1.1
      obtain rfl := f9 rfl
      obtain rfl : o6 = true := e1 rfl
      obtain rfl := g2 rfl
      obtain rfl : o9 = true := e3 rfl
      obtain rfl := g3 rfl
      refine ops_step rfl rfl (ld_arr rfl rfl rfl rfl s5 rfl) ?_
      refine ow_ ?_
      exact ih dh0 dh1 dh2 dh3 dh4 dh5 dh6 dh7 dh8 dh9 b5 e5 g7 g4 g8 f8 g1 g5 g6 (fun _ => rfl) (fun _ => rfl) (fun _ => rfl) (fun _ => rfl) d2 d3 d5 b2 d4 b1 a4 b4 d9 d7 d8 e4 e0 (fun _ => rfl) (fun _ => rfl) (fun _ => rfl) (cnt_dec h0 (by show 22 < 29; decide) dhn)
     refine allRdy_q rfl rfl (fun h0 h1 => ?_) ?_
     ·
      obtain rfl : r8 = true := h1.1
      obtain rfl := g6 rfl
      obtain rfl : q7 = true := h1.2.1
      obtain rfl := g0 rfl
      obtain rfl : o0 = true := e2 rfl
      obtain rfl := f9 rfl
      obtain rfl : o6 = true := e1 rfl
      obtain rfl := g2 rfl
      obtain rfl : o9 = true := e3 rfl
      obtain rfl := g3 rfl
      obtain rfl : q3 = true := h1.2.2.1
      obtain rfl := g5 rfl
      obtain rfl : q1 = true := e4 rfl
      obtain rfl := g7 rfl
      obtain rfl : p6 = true := e0 rfl
      obtain rfl := g1 rfl
      obtain rfl : n7 = true := d8 rfl
      obtain rfl := f8 rfl
      obtain rfl : o3 = true := d9 rfl
      obtain rfl := g4 rfl
      obtain rfl : o4 = true := d7 rfl
      obtain rfl := g8 rfl
      refine ops_callV rfl rfl (by cbv) (by cbv) z6 (.inr rfl) (by cbv) ?_
      refine ops_done (dwp_to [.up 7003, .up 81, .up 16, .up 10, .up 3, .up 2] (by cbv) rfl ?_)
      exact B6 dn dh0 dh1 dh2 dh3 dh4 dh5 dh6 dh7 dh8 dh9 b5 e5 (fun h => absurd h (by decide)) d2 d3 d5 b2 d4 b1 a4 b4 (fun h => absurd h (by decide)) (fun h => absurd h (by decide)) (fun h => absurd h (by decide)) (cnt_dec h0 (by show 23 < 29; decide) dhn)
     refine allRdy_q rfl rfl (fun _ h1 => absurd (show false = true from h1.2.2.2.2.1) (by decide)) ?_
     refine allRdy_q rfl rfl (fun _ h1 => absurd (show false = true from h1.1) (by decide)) ?_
     refine allRdy_q rfl rfl (fun _ h1 => absurd (show false = true from h1.2.1) (by decide)) ?_
     refine allRdy_q rfl rfl (fun _ h1 => absurd (show false = true from h1.2.2.2.2.2.2.2.2.2.2.2.2.2.2.2.2.2.2.2.2.2.2.2.1) (by decide)) ?_
     refine allRdy_q rfl rfl (fun _ h1 => absurd (show false = true from h1.1) (by decide)) ?_
     exact trivial
   exact dwp_to [.up 7003, .up 16, .up 10, .up 3, .up 2] (by cbv) rfl (@H_ 29 false false false false false false false false false false false false false false false false false false false false false false false (.bad) (.bad) (.bad) (.bad) (.bad) (.bad) (.bad) (.bad) (.bad) (.bad) (.bad) (.bad) (.bad) (.bad) (.bad) (.bad) (.bad) (.bad) (.bad) (.bad) (.bad) (.bad) (.bad) (fun h => absurd h (by decide)) (fun h => absurd h (by decide)) (fun h => absurd h (by decide)) (fun h => absurd h (by decide)) (fun h => absurd h (by decide)) (fun h => absurd h (by decide)) (fun h => absurd h (by decide)) (fun h => absurd h (by decide)) (fun h => absurd h (by decide)) (fun h => absurd h (by decide)) (fun h => absurd h (by decide)) (fun h => absurd h (by decide)) (fun h => absurd h (by decide)) (fun h => absurd h (by decide)) (fun h => absurd h (by decide)) (fun h => absurd h (by decide)) (fun h => absurd h (by decide)) (fun h => absurd h (by decide)) (fun h => absurd h (by decide)) (fun h => absurd h (by decide)) (fun h => absurd h (by decide)) (fun h => absurd h (by decide)) (fun h => absurd h (by decide)) (fun h => absurd h (by decide)) (fun h => absurd h (by decide)) (fun h => absurd h (by decide)) (fun h => absurd h (by decide)) (fun h => absurd h (by decide)) (fun h => absurd h (by decide)) (fun h => absurd h (by decide)) (fun h => absurd h (by decide)) (fun h => absurd h (by decide)) (fun h => absurd h (by decide)) (fun h => absurd h (by decide)) (fun h => absurd h (by decide)) (fun h => absurd h (by decide)) (fun h => absurd h (by decide)) (fun h => absurd h (by decide)) (fun h => absurd h (by decide)) rfl)
  refine gy hA 3 ?_
  refine ⟨(S88_2 b3 (A.num .add .i64 n2 1) R r29), List.length (insF (boxQ xs) GRec.Valid (xs.take i)) - (k + 1), ?_, by cbv, k + 1, (A.num .add .i64 n2 1), r29, rfl, ?_, rfl⟩
  ·
   omega
  have hM : boxR xs x18 = (⟨x18, a2, a3, f6, mailsR x18 xs⟩ : GBox) := by
   unfold boxR
   simp only [t8, t9, r4, q9, s6, r9, r0, r5, s0, r3, x6, t0]
  refine ⟨by rw [add_i64 hA (by omega) (by omega)]; omega, by omega, ?_⟩
  rw [map_tk t3, hM]
  exact y3
 have z9 : (A.rlen R) ≤ n2 := lss_f hA c17
 refine go_exit ⟨fun _ => ?_, fun h => absurd rfl h⟩
 refine gx hA 2 ?_
 refine go_ret ⟨_, by cbv, ?_⟩
 show _ = (PV.agg [.ow 5 R2])
 have hS : stateR xs = ⟨boxesR xs⟩ := by rw [stateR, if_pos hok]
 rw [List.take_of_length_le (by omega), List.take_of_length_le (by omega)] at hR2
 rw [← stateR_S, hS]
 simp only [hR2]
 rfl
end Go.Av

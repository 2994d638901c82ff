/- Walks: calls that make a box. -/
import Derived.Test.YtjbokkoiicoahaaB3
namespace Go.Av
open Go Go.Proofs
set_option maxRecDepth 100000
set_option maxHeartbeats 4000000
set_option linter.unusedVariables false
set_option linter.unusedSimpArgs false
def S111_1 (p0 : Int) (p1 : RR) (p2 : Int) (p3 : Int) (p4 : RR) : St := { sl := [.bad, .int .i64 p0, .bad, .bad, .bad, .bad, .bad, .pt 7 0 0, .bad, .sl 8 p1, .bad, .pt 11 0 0, .bad, .bad, .bad, .bad, .bad, .bad, .bad, .bad, .bad, .bad, .bad, .bad, .bad, .bad, .bad, .bad, .bad, .bad, .sl 8 p1, .int .i64 p2, .int .i64 p3, .bad, .bad, .bad, .bad, .bad, .bad, .bad, .bad, .bad, .bad, .bad, .bad, .bad, .bad, .bad], bl := [(7, ⟨.var, 1, [[.zc]]⟩), (11, ⟨.var, 1, [[.own 29]]⟩), (29, ⟨.arr, 5, p4⟩)] }
theorem r_impl_runRecs (A : Alg) (hA : A = std) (s : GState) (nv : Int) (u : ByteArray) (zu : (ByteArray.size u : Int) ≤ 4611686018427387904) (hz : ∀ q ∈ zsState s, q ≤ 1048576) (hvs : ∀ b ∈ s.Boxes, b.Valid < nv) : Real Try.prog 111 [.agg (eState s), .int .i64 nv, .agg [.int .i64 1, .str u, .str (ByteArray.mk #[105, 110, 98, 111, 120]), .str ByteArray.empty, .int .i64 0, .zc, .int .i64 0, .str ByteArray.empty]] (.tup [.sl 8 (List.map eRec (recL s.Boxes nv u)), .agg (eoState ⟨runL s.Boxes nv u⟩), .bool (modB s.Boxes nv u)]) := by
  obtain ⟨a0⟩ := s
  obtain ⟨a3, a2⟩ := nm (a0.map eBox)
  have b9 := rlen_map hA a2
  refine real_args (args' := [.agg [.sl 5 a3], .int .i64 nv, .agg [.int .i64 1, .str u, .str (ByteArray.mk #[105, 110, 98, 111, 120]), .str ByteArray.empty, .int .i64 0, .zc, .int .i64 0, .str ByteArray.empty]]) (by subst a2; rfl) ?_
  have b1 : ∀ q ∈ zsBoxS a0, q ≤ 1048576 := fun q hq => hz q (by simp only [zsState, List.mem_append]; simp only [hq, true_or, or_true])
  have d1 : List.length a0 ≤ 1048576 := b1 _ (by simp [zsBoxS])
  have hvs : ∀ b ∈ a0, b.Valid < nv := hvs
  refine real tyOk Try.func111 (by kernel_rfl) (afun_of rfl ?_)
  refine gs (gr (ra hA 5 (by cbv) (od ?_)))
  refine gs (gs (gr (ra hA 1 (by cbv) ?_)))
  obtain ⟨d7, f0, hc2⟩ : ∃ (d7 : Bool), d7 = (okU u) ∧ Real Try.prog 138 [.agg [.int .i64 1, .str u, .str (ByteArray.mk #[105, 110, 98, 111, 120]), .str ByteArray.empty, .int .i64 0, .zc, .int .i64 0, .str ByteArray.empty]] (.bool d7) := ⟨_, rfl, by exact r_impl_CallOk A hA u (by assumption)⟩
  refine ops_callV rfl rfl (by cbv) (by cbv) hc2 (.inr rfl) (by cbv) ?_
  refine ra hA 1 (by cbv) (od ?_)
  refine go_cond rfl (fun c3 => ?_) (fun c3 => ?_)
  ·
    have c4 : d7 = false := bnot_t hA c3
    refine gs (gB (ra hA 4 (by cbv) ?_))
    refine ops_doneB (tw := [.cell 7 0 9001 5, .slot 6 9100 8, .freeze 9100]) (by cbv) ?_
    refine go_ret ⟨_, by cbv, ?_⟩
    show _ = PV.tup [.sl 8 ([]), .agg [.ow 5 ([])], .bool false]
    have E : modB a0 nv u = false := mod_c (by rw [← f0]; assumption)
    simp only [runL, recL, E, Bool.false_eq_true, if_false]
    rfl
  ·
    have c5 : d7 = true := bnot_f hA c3
    refine gk (gs (gr (ra hA 3 (by cbv) ?_)))
    obtain ⟨c6, b2, e2, f2, hc7⟩ : ∃ (c6 : RR) (b2 : Bool), c6 = List.map eoRec ([recM nv u]) ∧ b2 = (!hasB a0 u inboxT) ∧ Real Try.prog 139 [.agg [.sl 5 a3], .int .i64 nv, .agg [.int .i64 1, .str u, .str (ByteArray.mk #[105, 110, 98, 111, 120]), .str ByteArray.empty, .int .i64 0, .zc, .int .i64 0, .str ByteArray.empty]] (.tup [.ow 8 c6, .bool b2]) := ⟨_, _, rfl, rfl, by subst a2; exact r_impl_wanted A hA (⟨a0⟩ : GState) nv u (by assumption) (by assumption)⟩
    have g8 := rlen_map hA e2
    obtain ⟨vf8, e5⟩ := nm (eraseR c6 : RR)
    have b8 : vf8 = List.map eRec ([recM nv u]) := by rw [e5, e2]; exact erR_Rec _
    have i1 := rlen_map hA b8
    refine ops_callVFn (r' := .tup [.sl 8 vf8, .bool b2]) rfl rfl (by cbv) (by cbv) hc7 (.inr rfl) (by subst e5; rfl) ?_
    refine ra hA 5 (by cbv) (od ?_)
    refine gs (gs (gr (ra hA 2 (by cbv) (od ?_))))
    refine go_cond rfl (fun c9 => ?_) (fun c9 => ?_)
    ·
      have c10 : b2 = false := bnot_t hA c9
      refine gs (gB (ra hA 4 (by cbv) ?_))
      refine ops_doneB (tw := [.cell 7 0 9001 5, .slot 6 9100 8, .freeze 9100]) (by cbv) ?_
      refine go_ret ⟨_, by cbv, ?_⟩
      show _ = PV.tup [.sl 8 ([]), .agg [.ow 5 ([])], .bool false]
      have E : modB a0 nv u = false := mod_f (fit_has (by have h := f2; rw [show b2 = false from by assumption] at h; simpa using h.symm))
      simp only [runL, recL, E, Bool.false_eq_true, if_false]
      rfl
    ·
      have c11 : b2 = true := bnot_f hA c9
      refine gk (gs (gr (ra hA 1 (by cbv) ?_)))
      obtain ⟨a7, d9, e6⟩ : ∃ (a7 : RR), a7 = List.map eoBox a0 ∧ Real Try.prog 112 [.agg [.sl 5 a3]] (.agg [.ow 5 a7]) := ⟨_, rfl, by subst a2; exact r_impl_cloneState A hA (⟨a0⟩ : GState) (by assumption)⟩
      have f6 := rlen_map hA d9
      refine ops_callV rfl rfl (by cbv) (by cbv) e6 (.inr rfl) (by cbv) ?_
      refine ra hA 2 (by cbv) (od ?_)
      refine gs (gs (gr (ra hA 3 (by cbv) (od ?_))))
      refine go_block ?_
      refine go_loopE (fun σ m => ∃ (L : List GBox) (R : RR) (n : Int), σ = (S111_1 nv vf8 (A.rlen vf8) n R) ∧ (R = List.map eoBox L ∧ ((n = 0 ∧ L = a0) ∨ (n = 1 ∧ L = a0 ++ [nBox nv u] ∧ fitB a0 nv u = true))) ∧ m = Int.toNat (1 - n)) _ [.up 29, .up 11, .up 7, .up 5, .up 3] [1, 7, 9, 11, 30, 31, 32] [7, 11, 29] (S111_1 nv vf8 (A.rlen vf8) 0 a7) rfl (by cbv) ⟨a0, a7, 0, rfl, ?_, rfl⟩ (fun σ m hI => ?_)
      ·
        exact ⟨by assumption, .inl ⟨rfl, rfl⟩⟩
      obtain ⟨L, R, n, rfl, ⟨hR, hinv⟩, rfl⟩ := hI
      refine gs ?_
      have le : A.rlen vf8 = (1 : Int) := by
        have hq : vf8 = List.map eRec ([recM nv u]) := b8
        rw [hq]; subst hA; rfl
      refine gr (ra hA 1 (by cbv) (od ?_))
      refine gs ?_
      refine go_cond rfl (fun c14 => ?_) (fun c14 => ?_)
      ·
        have g4 : n < (A.rlen vf8) := lss_t hA c14
        refine gk (gs ?_)
        refine go_block ?_
        refine gs ?_
        have hn0 : n = 0 := by omega
        have hL0 : L = a0 := by
          rcases hinv with h | h
          · exact h.2
          · omega
        have hzL : ∀ q ∈ zsState (⟨L⟩ : GState), q ≤ 1048576 := by rw [hL0]; exact hz
        have hvL : ∀ b ∈ (⟨L⟩ : GState).Boxes, b.Valid < nv := by rw [hL0]; exact hvs
        refine gr ?_
        have g3 : vf8 = List.map eRec ([recM nv u]) := b8
        have g1 : vf8[Int.toNat n]? = some [.int .i64 1, .int .i64 nv, .int .i64 0, .int .i64 1, .int .i64 0, .str u, .str (ByteArray.mk #[105, 110, 98, 111, 120]), .str ByteArray.empty] := by rw [g3, hn0]; rfl
        refine ops_step rfl rfl (idx_sl rfl rfl rfl rfl rfl (by omega) rfl g1) ?_
        refine ra hA 3 (by cbv) (od ?_)
        refine gs (gs (gr (ra hA 3 (by cbv) ?_)))
        obtain ⟨c1, e7, g5⟩ : ∃ (c1 : Bool), c1 = (fitB L nv u) ∧ Real Try.prog 140 [.agg [.sl 5 (eraseR R)], .int .i64 nv, .agg [.int .i64 1, .int .i64 nv, .int .i64 0, .int .i64 1, .int .i64 0, .str u, .str (ByteArray.mk #[105, 110, 98, 111, 120]), .str ByteArray.empty]] (.bool c1) := ⟨_, rfl, by subst hR; simp only [erR_Box]; exact r_impl_Fitting A hA (⟨L⟩ : GState) nv u (by assumption) (by assumption)⟩
        refine ops_callV rfl rfl (by cbv) (by cbv) g5 (.inl trivial) (by cbv) ?_
        refine ra hA 1 (by cbv) (od ?_)
        refine go_cond rfl (fun c18 => ?_) (fun c18 => ?_)
        ·
          have c19 : c1 = false := bnot_t hA c18
          refine gs (gB (ra hA 4 (by cbv) ?_))
          refine ops_doneB (tw := [.cell 7 0 9001 5, .slot 6 9100 8, .freeze 9100]) (by cbv) ?_
          refine go_ret ⟨_, by cbv, ?_⟩
          show _ = PV.tup [.sl 8 ([]), .agg [.ow 5 ([])], .bool false]
          have E : modB a0 nv u = false := mod_f (by rw [← hL0, ← e7]; assumption)
          simp only [runL, recL, E, Bool.false_eq_true, if_false]
          rfl
        ·
          have c20 : c1 = true := bnot_f hA c18
          refine gk (gr (ra hA 2 (by cbv) ?_))
          obtain ⟨a6, b3, i2⟩ : ∃ (a6 : RR), a6 = List.map eoBox (L ++ [nBox nv u]) ∧ Real Try.prog 141 [.agg [.sl 5 (eraseR R)], .agg [.int .i64 1, .int .i64 nv, .int .i64 0, .int .i64 1, .int .i64 0, .str u, .str (ByteArray.mk #[105, 110, 98, 111, 120]), .str ByteArray.empty]] (.agg [.ow 5 a6]) := ⟨_, rfl, by subst hR; simp only [erR_Box]; exact r_impl_told A hA (⟨L⟩ : GState) nv u (by assumption) (by assumption)⟩
          have f7 := rlen_map hA b3
          refine ops_callV rfl rfl (by cbv) (by cbv) i2 (.inl (by simp only [fresh, freshL, b3, frR_Box, and_self])) (by cbv) ?_
          refine ra hA 1 (by cbv) (od ?_)
          refine gB (ra hA 2 (by cbv) ?_)
          refine ops_doneB (tw := [.drop 29, .ren 44 29, .up 29, .up 13, .up 11, .up 7]) (by cbv) ?_
          refine ⟨(S111_1 nv vf8 (A.rlen vf8) (A.num .add .i64 n 1) a6), Int.toNat (1 - (A.num .add .i64 n 1)), ?_, by cbv, (L ++ [nBox nv u]), a6, (A.num .add .i64 n 1), rfl, ?_, rfl⟩
          ·
            have := add_i64 hA (a := n) (b := 1) (by omega) (by omega); omega
          ·
            refine ⟨b3, .inr ⟨by rw [add_i64 hA (by omega) (by omega)]; omega, by rw [hL0], ?_⟩⟩
            rw [← hL0, ← e7]; assumption
      ·
        have g4 : (A.rlen vf8) ≤ n := lss_f hA c14
        refine go_exit ⟨fun _ => ?_, fun h => absurd rfl h⟩
        refine gs ?_
        refine go_drawE [0, 2, 1, 3, 4] (by cbv) rfl rfl ({ sl := [.bad, .int .i64 nv, .bad, .bad, .bad, .bad, .sl 8 vf8, .pt 7 0 0, .bool true, .sl 8 vf8, .bad, .pt 11 0 0, .bad, .bad, .bad, .bad, .bad, .bad, .bad, .bad, .bad, .bad, .bad, .bad, .bad, .bad, .bad, .bad, .bad, .bad, .sl 8 vf8, .int .i64 (A.rlen vf8), .int .i64 n, .bool (A.cmp .lss n (A.rlen vf8)), .bad, .bad, .bad, .bad, .bad, .bad, .bad, .bad, .bad, .bad, .bad, .bad, .sl 8 vf8, .agg [.own 29]], bl := [(7, ⟨.var, 1, [[.own 29]]⟩), (11, ⟨.var, 1, [[.own 29]]⟩), (29, ⟨.arr, 5, R⟩)] } : St) (fun dR dK dhR dhF => ?_) ?_
        ·
          have H_3 : ∀ (dn : Nat) (dB4 : Bool) (dQ4 : PV), (dB4 = true → dQ4 = .bool true) → cntF [true, true, true, true, dB4] = dn → dwp T ⟨Real Try.prog, RealM Try.prog, RealC Try.prog⟩ dR dK dn [true, true, true, true, dB4] ({ sl := [.bad, .int .i64 nv, .bad, .bad, .bad, .bad, .sl 8 vf8, .pt 7 0 0, dQ4, .sl 8 vf8, .bad, .pt 11 0 0, .bad, .bad, .bad, .bad, .bad, .bad, .bad, .bad, .bad, .bad, .bad, .bad, .bad, .bad, .bad, .bad, .bad, .bad, .sl 8 vf8, .int .i64 (A.rlen vf8), .int .i64 n, .bool (A.cmp .lss n (A.rlen vf8)), .bad, .bad, .bad, .bad, .bad, .bad, .bad, .bad, .bad, .bad, .bad, .bad, .sl 8 vf8, .agg [.own 29]], bl := [(7, ⟨.var, 1, [[.own 29]]⟩), (11, ⟨.var, 1, [[.own 29]]⟩), (29, ⟨.arr, 5, R⟩)] } : St) := by
            intro dn
            induction dn with
            | zero =>
              intro dB4 dQ4 dh4 dhn
              have y4 : dB4 = true := cntF_zero  _ dhn 4 (by show 4 < 5; decide)
              subst y4
              have y4 := dh4 rfl
              subst y4
              exact dwp_last dhF
            | succ dn ih =>
              intro dB4 dQ4 dh4 dhn
              subst dhR
              refine dwp_next (is := [0, 1, 2, 3, 4]) rfl ?_
              refine allRdy_none rfl ?_
              refine allRdy_none rfl ?_
              refine allRdy_none rfl ?_
              refine allRdy_none rfl ?_
              refine allRdy_q rfl rfl (fun h0 h1 => ?_) ?_
              ·
                cases (show dB4 = false from h0)
                refine ra hA 1 (by cbv) ?_
                exact ops_done (dwp_to [] (by cbv) rfl (ih true (.bool true) (fun _ => rfl) (cnt_dec h0 (by show 4 < 5; decide) dhn)))
              exact trivial
          have H_ : ∀ (dn : Nat) (dB0 : Bool) (dB1 : Bool) (dB2 : Bool) (dQ0 : PV) (dQ1 : PV) (dQ2 : PV), (dB0 = true → dQ0 = .sl 8 vf8) → (dB1 = true → dQ1 = .agg [.own 29]) → (dB2 = true → dQ2 = .sl 8 vf8) → (dB2 = true → dB0 = true) → cntF [dB0, dB1, dB2, false, false] = dn → dwp T ⟨Real Try.prog, RealM Try.prog, RealC Try.prog⟩ dR dK dn [dB0, dB1, dB2, false, false] ({ sl := [.bad, .int .i64 nv, .bad, .bad, .bad, .bad, dQ2, .pt 7 0 0, .bad, .sl 8 vf8, .bad, .pt 11 0 0, .bad, .bad, .bad, .bad, .bad, .bad, .bad, .bad, .bad, .bad, .bad, .bad, .bad, .bad, .bad, .bad, .bad, .bad, .sl 8 vf8, .int .i64 (A.rlen vf8), .int .i64 n, .bool (A.cmp .lss n (A.rlen vf8)), .bad, .bad, .bad, .bad, .bad, .bad, .bad, .bad, .bad, .bad, .bad, .bad, dQ0, dQ1], bl := [(7, ⟨.var, 1, [[.zc]]⟩), (11, ⟨.var, 1, [[.own 29]]⟩), (29, ⟨.arr, 5, R⟩)] } : St) := by
            intro dn
            induction dn with
            | zero =>
              intro dB0 dB1 dB2 dQ0 dQ1 dQ2 dh0 dh1 dh2 e9 dhn
              exact absurd (show false = true from cntF_zero  _ dhn 3 (by show 3 < 5; decide)) (by decide)
            | succ dn ih =>
              intro dB0 dB1 dB2 dQ0 dQ1 dQ2 dh0 dh1 dh2 e9 dhn
              subst dhR
              refine dwp_next (is := [0, 1, 2, 3, 4]) rfl ?_
              refine allRdy_q rfl rfl (fun h0 h1 => ?_) ?_
              ·
                cases (show dB0 = false from h0)
                refine ra hA 1 (by cbv) ?_
                exact ops_done (dwp_to [] (by cbv) rfl (ih true dB1 dB2 (.sl 8 vf8) (dQ1) (dQ2) (fun _ => rfl) dh1 dh2 (fun _ => rfl) (cnt_dec h0 (by show 0 < 5; decide) dhn)))
              refine allRdy_q rfl rfl (fun h0 h1 => ?_) ?_
              ·
                cases (show dB1 = false from h0)
                refine ra hA 1 (by cbv) ?_
                exact ops_done (dwp_to [] (by cbv) rfl (ih dB0 true dB2 (dQ0) (.agg [.own 29]) (dQ2) dh0 (fun _ => rfl) dh2 e9 (cnt_dec h0 (by show 1 < 5; decide) dhn)))
              refine allRdy_q rfl rfl (fun h0 h1 => ?_) ?_
              ·
                cases (show dB2 = false from h0)
                obtain rfl : dB0 = true := h1.1
                obtain rfl := dh0 rfl
                refine ra hA 1 (by cbv) ?_
                exact ops_done (dwp_to [] (by cbv) rfl (ih true dB1 true (.sl 8 vf8) (dQ1) (.sl 8 vf8) (fun _ => rfl) dh1 (fun _ => rfl) (fun _ => rfl) (cnt_dec h0 (by show 2 < 5; decide) dhn)))
              refine allRdy_q rfl rfl (fun h0 h1 => ?_) ?_
              ·
                obtain rfl : dB1 = true := h1.1
                obtain rfl := dh1 rfl
                obtain rfl : dB2 = true := h1.2.1
                obtain rfl := dh2 rfl
                obtain rfl : dB0 = true := e9 rfl
                obtain rfl := dh0 rfl
                refine ra hA 1 (by cbv) ?_
                exact ops_done (dwp_to [] (by cbv) rfl (H_3 dn false (.bad) (fun h => absurd h (by decide)) (cnt_dec h0 (by show 3 < 5; decide) dhn)))
              refine allRdy_q rfl rfl (fun _ h1 => absurd (show false = true from h1.1) (by decide)) ?_
              exact trivial
          exact dwp_to [] (by cbv) rfl (H_ 5 false false false (.bad) (.bad) (.bad) (fun h => absurd h (by decide)) (fun h => absurd h (by decide)) (fun h => absurd h (by decide)) (fun h => absurd h (by decide)) rfl)
        refine go_ret ⟨_, by cbv, ?_⟩
        show _ = PV.tup [.sl 8 vf8, .agg [.ow 5 R], .bool true]
        have hf : n = 1 ∧ L = a0 ++ [nBox nv u] ∧ fitB a0 nv u = true := by
          rcases hinv with h | h
          · omega
          · exact h
        have E : modB a0 nv u = true := mod_t (by rw [← f0]; assumption) hf.2.2
        simp only [runL, recL, E, if_true, hR, hf.2.1, b8, hR]
        rfl
def S107_1 (p0 : Int) (p1 : RR) (p2 : Bool) (p3 : Int) (p4 : RR) : St := { sl := [.bad, .int .i64 p0, .bad, .pt 3 0 0, .bad, .bad, .bad, .bad, .sl 8 p1, .bool p2, .int .i64 p3, .bad, .bad, .bad, .bad, .bad, .bad, .bad, .bad, .bad, .bad, .bad, .bad, .bad, .bad, .bad, .bad, .bad, .bad, .bad, .bad, .bad, .bad, .bad, .bad, .bad, .bad, .bad, .bad, .bad, .bad, .bad], bl := [(3, ⟨.var, 1, [[.sl 5 p4]]⟩)] }
theorem r_spec_RecsFor (A : Alg) (hA : A = std) (s : GState) (nv : Int) (u : ByteArray) (zu : (ByteArray.size u : Int) ≤ 4611686018427387904) (hz : ∀ q ∈ zsState s, q ≤ 1048576) : Real Try.prog 107 [.agg (eState s), .int .i64 nv, .agg [.int .i64 1, .str u, .str (ByteArray.mk #[105, 110, 98, 111, 120]), .str ByteArray.empty, .int .i64 0, .zc, .int .i64 0, .str ByteArray.empty]] (.tup [.sl 8 (List.map eRec (recL s.Boxes nv u)), .bool (modB s.Boxes nv u)]) := by
  obtain ⟨a0⟩ := s
  obtain ⟨a3, a2⟩ := nm (a0.map eBox)
  have b9 := rlen_map hA a2
  refine real_args (args' := [.agg [.sl 5 a3], .int .i64 nv, .agg [.int .i64 1, .str u, .str (ByteArray.mk #[105, 110, 98, 111, 120]), .str ByteArray.empty, .int .i64 0, .zc, .int .i64 0, .str ByteArray.empty]]) (by subst a2; rfl) ?_
  have b1 : ∀ q ∈ zsBoxS a0, q ≤ 1048576 := fun q hq => hz q (by simp only [zsState, List.mem_append]; simp only [hq, true_or, or_true])
  have d1 : List.length a0 ≤ 1048576 := b1 _ (by simp [zsBoxS])
  refine real tyOk Try.func107 (by kernel_rfl) (afun_of rfl ?_)
  refine gs (gr (ra hA 4 (by cbv) (od ?_)))
  refine gs (gs (gr (ra hA 1 (by cbv) ?_)))
  obtain ⟨d3, f1, hc2⟩ : ∃ (d3 : Bool), d3 = (okU u) ∧ Real Try.prog 134 [.agg [.int .i64 1, .str u, .str (ByteArray.mk #[105, 110, 98, 111, 120]), .str ByteArray.empty, .int .i64 0, .zc, .int .i64 0, .str ByteArray.empty]] (.bool d3) := ⟨_, rfl, by exact r_spec_CallOk A hA u (by assumption)⟩
  refine ops_callV rfl rfl (by cbv) (by cbv) hc2 (.inr rfl) (by cbv) ?_
  refine ra hA 1 (by cbv) (od ?_)
  refine go_cond rfl (fun c3 => ?_) (fun c3 => ?_)
  ·
    have c4 : d3 = false := bnot_t hA c3
    refine gs (gB (ra hA 3 (by cbv) ?_))
    refine ops_doneB (tw := [.freeze 14]) (by cbv) ?_
    refine go_ret ⟨_, by cbv, ?_⟩
    show _ = PV.tup [.sl 8 ([]), .bool false]
    have E : modB a0 nv u = false := mod_c (by rw [← f1]; assumption)
    simp only [recL, E, Bool.false_eq_true, if_false]
    rfl
  ·
    have c5 : d3 = true := bnot_f hA c3
    refine gk (gs (gr (ra hA 3 (by cbv) ?_)))
    obtain ⟨d0, e0, hc7⟩ : ∃ (d0 : RR), d0 = List.map eoRec ([recM nv u]) ∧ Real Try.prog 135 [.agg [.sl 5 a3], .int .i64 nv, .agg [.int .i64 1, .str u, .str (ByteArray.mk #[105, 110, 98, 111, 120]), .str ByteArray.empty, .int .i64 0, .zc, .int .i64 0, .str ByteArray.empty]] (.tup [.ow 8 d0, .bool true]) := ⟨_, rfl, by subst a2; exact r_spec_l15Recs A hA (⟨a0⟩ : GState) nv u (by assumption)⟩
    have g9 := rlen_map hA e0
    obtain ⟨vf8, e5⟩ := nm (eraseR d0 : RR)
    have b8 : vf8 = List.map eRec ([recM nv u]) := by rw [e5, e0]; exact erR_Rec _
    have i1 := rlen_map hA b8
    refine ops_callVFn (r' := .tup [.sl 8 vf8, .bool true]) rfl rfl (by cbv) (by cbv) hc7 (.inr rfl) (by subst e5; rfl) ?_
    refine ra hA 5 (by cbv) (od ?_)
    refine gs (gs (gr (ra hA 1 (by cbv) (od ?_))))
    refine go_block ?_
    refine go_loopE (fun σ m => ∃ (n : Int) (ok : Bool), σ = (S107_1 nv vf8 ok n a3) ∧ ((n = 0 ∧ ok = true) ∨ (n = 1 ∧ ok = fitB a0 nv u)) ∧ m = Int.toNat (1 - n)) _ [] [1, 3, 8, 9, 10] [3] (S107_1 nv vf8 true 0 a3) rfl (by cbv) ⟨0, true, rfl, ?_, rfl⟩ (fun σ m hI => ?_)
    ·
      exact .inl ⟨rfl, rfl⟩
    obtain ⟨n, ok, rfl, hinv, rfl⟩ := hI
    refine gs (gs ?_)
    have le : A.rlen vf8 = (1 : Int) := by
      have hq : vf8 = List.map eRec ([recM nv u]) := b8
      rw [hq]; subst hA; rfl
    refine gr (ra hA 5 (by cbv) ?_)
    refine ops_split 26 rfl (fun c9 => ?_) (fun c9 => ?_)
    ·
      have ec9 : n < (A.rlen vf8) := lss_t hA c9
      refine ra hA 2 (by cbv) (od ?_)
      refine go_cond rfl (fun c10 => ?_) (fun c10 => ?_)
      ·
        refine gk (gs ?_)
        refine go_block ?_
        have hn0 : n = 0 := by omega
        refine go_draw (by cbv) ?_
        refine rd hA 4 (by cbv) ?_
        have g2 : vf8 = List.map eRec ([recM nv u]) := b8
        have e8 : vf8[Int.toNat n]? = some [.int .i64 1, .int .i64 nv, .int .i64 0, .int .i64 1, .int .i64 0, .str u, .str (ByteArray.mk #[105, 110, 98, 111, 120]), .str ByteArray.empty] := by rw [g2, hn0]; rfl
        refine dops_step rfl rfl rfl (idx_sl rfl rfl rfl rfl rfl (by omega) rfl e8) ?_
        refine rd hA 1 (by cbv) ?_
        obtain ⟨c2, f5, e6⟩ : ∃ (c2 : Bool), c2 = (fitB a0 nv u) ∧ Real Try.prog 136 [.agg [.sl 5 a3], .int .i64 nv, .agg [.int .i64 1, .int .i64 nv, .int .i64 0, .int .i64 1, .int .i64 0, .str u, .str (ByteArray.mk #[105, 110, 98, 111, 120]), .str ByteArray.empty]] (.bool c2) := ⟨_, rfl, by subst a2; exact r_spec_Fitting A hA (⟨a0⟩ : GState) nv u (by assumption) (by assumption)⟩
        refine dops_callV rfl rfl (by cbv) (by cbv) e6 (.inr rfl) ?_
        refine rd hA 1 (by cbv) (dd_ ?_)
        refine gr (ra hA 3 (by cbv) (od ?_))
        refine ⟨(S107_1 nv vf8 c2 (A.num .add .i64 n 1) a3), Int.toNat (1 - (A.num .add .i64 n 1)), ?_, by cbv, (A.num .add .i64 n 1), c2, rfl, ?_, rfl⟩
        ·
          have := add_i64 hA (a := n) (b := 1) (by omega) (by omega); omega
        ·
          exact .inr ⟨by rw [add_i64 hA (by omega) (by omega)]; omega, f5⟩
      ·
        exact absurd (hinv.elim (fun h => h.2) (fun h => absurd h.1 (by omega))) (by rw [c10]; decide)
    ·
      have ec9 : (A.rlen vf8) ≤ n := lss_f hA c9
      refine ra hA 2 (by cbv) (od ?_)
      refine go_cond rfl (fun c14 => ?_) (fun c14 => ?_)
      ·
        exact no_t c14 (show false = false from by rfl)
      ·
        refine go_exit ⟨fun _ => ?_, fun h => absurd rfl h⟩
        refine gs (gs (gr (ra hA 2 (by cbv) (od ?_))))
        refine go_cond rfl (fun c15 => ?_) (fun c15 => ?_)
        ·
          have c16 : ok = false := bnot_t hA c15
          refine gs (gB (ra hA 3 (by cbv) ?_))
          refine ops_doneB (tw := [.freeze 40]) (by cbv) ?_
          refine go_ret ⟨_, by cbv, ?_⟩
          show _ = PV.tup [.sl 8 ([]), .bool false]
          have hf : ok = fitB a0 nv u := by
            rcases hinv with h | h
            · omega
            · exact h.2
          have E : modB a0 nv u = false := mod_f (by rw [← hf]; assumption)
          simp only [recL, E, Bool.false_eq_true, if_false]
          rfl
        ·
          have c17 : ok = true := bnot_f hA c15
          refine gk (gs (gr (ra hA 3 (by cbv) (od ?_))))
          refine go_ret ⟨_, by cbv, ?_⟩
          show _ = PV.tup [.sl 8 vf8, .bool true]
          have hf : ok = fitB a0 nv u := by
            rcases hinv with h | h
            · omega
            · exact h.2
          have E : modB a0 nv u = true := mod_t (by rw [← f1]; assumption) (by rw [← hf]; assumption)
          simp only [recL, E, if_true, b8]
theorem r_impl_ModelCall (A : Alg) (hA : A = std) (s : GState) (nv : Int) (u : ByteArray) (zu : (ByteArray.size u : Int) ≤ 4611686018427387904) (hz : ∀ q ∈ zsState s, q ≤ 1048576) (hvs : ∀ b ∈ s.Boxes, b.Valid < nv) (hnv : nv ≤ 1000000) (hnv0 : 0 ≤ nv) : Real Try.prog 75 [.agg (eState s), .int .i64 nv, .agg [.int .i64 1, .str u, .str (ByteArray.mk #[105, 110, 98, 111, 120]), .str ByteArray.empty, .int .i64 0, .zc, .int .i64 0, .str ByteArray.empty]] (.tup [.agg (eoState ⟨modL s.Boxes nv u⟩), .int .i64 (modN s.Boxes nv u), .int .i64 (modC s.Boxes nv u)]) := by
 obtain ⟨a0⟩ := s
 obtain ⟨a3, a2⟩ := nm (a0.map eBox)
 have b9 := rlen_map hA a2
 refine real_args (args' := [.agg [.sl 5 a3], .int .i64 nv, .agg [.int .i64 1, .str u, .str (ByteArray.mk #[105, 110, 98, 111, 120]), .str ByteArray.empty, .int .i64 0, .zc, .int .i64 0, .str ByteArray.empty]]) (by subst a2; rfl) ?_
 have b1 : ∀ q ∈ zsBoxS a0, q ≤ 1048576 := fun q hq => hz q (by simp only [zsState, List.mem_append]; simp only [hq, true_or, or_true])
 have d1 : List.length a0 ≤ 1048576 := b1 _ (by simp [zsBoxS])
 have hvs : ∀ b ∈ a0, b.Valid < nv := hvs
 refine real tyOk Try.func75 (by kernel_rfl) (afun_of rfl ?_)
 refine gs (gr (ra hA 5 (by cbv) (od ?_)))
 refine gs (gr (ra hA 3 (by cbv) ?_))
 obtain ⟨d8, b0, b5, f3, b6, e4, hc2⟩ : ∃ (d8 : RR) (b0 : RR) (b5 : Bool), d8 = List.map eRec (recL a0 nv u) ∧ b0 = List.map eoBox (runL a0 nv u) ∧ b5 = (modB a0 nv u) ∧ Real Try.prog 111 [.agg [.sl 5 a3], .int .i64 nv, .agg [.int .i64 1, .str u, .str (ByteArray.mk #[105, 110, 98, 111, 120]), .str ByteArray.empty, .int .i64 0, .zc, .int .i64 0, .str ByteArray.empty]] (.tup [.sl 8 d8, .agg [.ow 5 b0], .bool b5]) := ⟨_, _, _, rfl, rfl, rfl, by subst a2; exact r_impl_runRecs A hA (⟨a0⟩ : GState) nv u (by assumption) (by assumption) (by assumption)⟩
 have g7 := rlen_map hA f3
 have f4 := rlen_map hA b6
 refine ops_callV rfl rfl (by cbv) (by cbv) hc2 (.inr rfl) (by cbv) ?_
 refine ra hA 8 (by cbv) (od ?_)
 refine gs (gs (gr (ra hA 2 (by cbv) (od ?_))))
 refine go_cond rfl (fun c3 => ?_) (fun c3 => ?_)
 ·
  have c4 : b5 = false := bnot_t hA c3
  refine gs (gr (ra hA 1 (by cbv) ?_))
  obtain ⟨a4, a8, hc6⟩ : ∃ (a4 : RR), a4 = List.map eoBox a0 ∧ Real Try.prog 112 [.agg [.sl 5 a3]] (.agg [.ow 5 a4]) := ⟨_, rfl, by subst a2; exact r_impl_cloneState A hA (⟨a0⟩ : GState) (by assumption)⟩
  have e1 := rlen_map hA a8
  refine ops_callV rfl rfl (by cbv) (by cbv) hc6 (.inr rfl) (by cbv) ?_
  refine ra hA 4 (by cbv) (od ?_)
  refine go_ret ⟨_, by cbv, ?_⟩
  show _ = PV.tup [.agg [.ow 5 a4], .int .i64 nv, .int .i64 1]
  have E : modB a0 nv u = false := by rw [← e4]; assumption
  simp only [modL, modN, modC, runL, E, Bool.false_eq_true, if_false, a8]
  rfl
 ·
  have c7 : b5 = true := bnot_f hA c3
  refine gk (gs (gs (gr (ra hA 3 (by cbv) (od ?_)))))
  refine go_cond rfl (fun c8 => ?_) (fun c8 => ?_)
  ·
   refine gr (ra hA 3 (by cbv) (od ?_))
   refine gs (gr (ra hA 5 (by cbv) (od ?_)))
   refine go_ret ⟨_, by cbv, ?_⟩
   show _ = PV.tup [.agg [.ow 5 b0], .int .i64 (A.num .add .i64 nv 1), .int .i64 0]
   have E : modB a0 nv u = true := by rw [← e4]; assumption
   have E2 : A.num .add .i64 nv 1 = nv + 1 := add_i64 hA (by omega) (by omega)
   simp only [modL, modN, modC, runL, E, if_true, E2, b6]
   rfl
  ·
   exact no_f c8 (show (A.cmp .eql 1 1) = true from by subst hA; rfl)
def S72_1 (p0 : Int) (p1 : RR) (p2 : Int) (p3 : Int) (p4 : ByteArray) (p5 : ByteArray) (p6 : ByteArray) (p7 : Int) (p8 : RR) : St := { sl := [.bad, .int .i64 p0, .bad, .bad, .bad, .pt 5 0 0, .pt 6 0 0, .bad, .bad, .sl 8 p1, .bad, .pt 11 0 0, .int .i64 p2, .bad, .bad, .bad, .bad, .bad, .bad, .bad, .bad, .bad, .bad, .bad, .bad, .bad, .bad, .bad, .bad, .bad, .bad, .bad, .bad, .bad, .bad, .bad, .bad, .bad, .bad, .bad, .bad, .bad, .bad, .bad, .bad, .bad], bl := [(5, ⟨.var, 8, [[.int .i64 p3, .str p4, .str p5, .str p6, .int .i64 p7, .zc, .int .i64 p7, .str p6]]⟩), (6, ⟨.var, 1, [[.zc]]⟩), (11, ⟨.var, 1, [[.own 26]]⟩), (26, ⟨.arr, 5, p8⟩)] }
theorem r_spec_ModelCall (A : Alg) (hA : A = std) (s : GState) (nv : Int) (u : ByteArray) (zu : (ByteArray.size u : Int) ≤ 4611686018427387904) (hz : ∀ q ∈ zsState s, q ≤ 1048576) (hvs : ∀ b ∈ s.Boxes, b.Valid < nv) (hnv : nv ≤ 1000000) (hnv0 : 0 ≤ nv) : Real Try.prog 72 [.agg (eState s), .int .i64 nv, .agg [.int .i64 1, .str u, .str (ByteArray.mk #[105, 110, 98, 111, 120]), .str ByteArray.empty, .int .i64 0, .zc, .int .i64 0, .str ByteArray.empty]] (.tup [.agg (eoState ⟨modL s.Boxes nv u⟩), .int .i64 (modN s.Boxes nv u), .int .i64 (modC s.Boxes nv u)]) := by
  obtain ⟨a0⟩ := s
  obtain ⟨a3, a2⟩ := nm (a0.map eBox)
  have b9 := rlen_map hA a2
  refine real_args (args' := [.agg [.sl 5 a3], .int .i64 nv, .agg [.int .i64 1, .str u, .str (ByteArray.mk #[105, 110, 98, 111, 120]), .str ByteArray.empty, .int .i64 0, .zc, .int .i64 0, .str ByteArray.empty]]) (by subst a2; rfl) ?_
  have b1 : ∀ q ∈ zsBoxS a0, q ≤ 1048576 := fun q hq => hz q (by simp only [zsState, List.mem_append]; simp only [hq, true_or, or_true])
  have d1 : List.length a0 ≤ 1048576 := b1 _ (by simp [zsBoxS])
  have hvs : ∀ b ∈ a0, b.Valid < nv := hvs
  refine real tyOk Try.func72 (by kernel_rfl) (afun_of rfl ?_)
  refine gs (gr (ra hA 5 (by cbv) (od ?_)))
  refine gs (gr (ra hA 3 (by cbv) ?_))
  obtain ⟨a1, b7, d2, c0, hc2⟩ : ∃ (a1 : RR) (b7 : Bool), a1 = List.map eRec (recL a0 nv u) ∧ b7 = (modB a0 nv u) ∧ Real Try.prog 107 [.agg [.sl 5 a3], .int .i64 nv, .agg [.int .i64 1, .str u, .str (ByteArray.mk #[105, 110, 98, 111, 120]), .str ByteArray.empty, .int .i64 0, .zc, .int .i64 0, .str ByteArray.empty]] (.tup [.sl 8 a1, .bool b7]) := ⟨_, _, rfl, rfl, by subst a2; exact r_spec_RecsFor A hA (⟨a0⟩ : GState) nv u (by assumption) (by assumption)⟩
  have i0 := rlen_map hA d2
  refine ops_callV rfl rfl (by cbv) (by cbv) hc2 (.inr rfl) (by cbv) ?_
  refine ra hA 5 (by cbv) (od ?_)
  refine gs (gs (gr (ra hA 2 (by cbv) (od ?_))))
  refine go_cond rfl (fun c3 => ?_) (fun c3 => ?_)
  ·
    have c4 : b7 = false := bnot_t hA c3
    refine gs (gr (ra hA 1 (by cbv) ?_))
    obtain ⟨a4, a8, hc6⟩ : ∃ (a4 : RR), a4 = List.map eoBox a0 ∧ Real Try.prog 108 [.agg [.sl 5 a3]] (.agg [.ow 5 a4]) := ⟨_, rfl, by subst a2; exact r_spec_l15State A hA (⟨a0⟩ : GState) (by assumption)⟩
    have e1 := rlen_map hA a8
    refine ops_callV rfl rfl (by cbv) (by cbv) hc6 (.inr rfl) (by cbv) ?_
    refine ra hA 4 (by cbv) (od ?_)
    refine go_ret ⟨_, by cbv, ?_⟩
    show _ = PV.tup [.agg [.ow 5 a4], .int .i64 nv, .int .i64 1]
    have E : modB a0 nv u = false := by rw [← c0]; assumption
    simp only [modL, modN, modC, E, Bool.false_eq_true, if_false, a8]
    rfl
  ·
    have c7 : b7 = true := bnot_f hA c3
    refine gk (gs (gr (ra hA 1 (by cbv) ?_)))
    obtain ⟨a9, e3, hc9⟩ : ∃ (a9 : RR), a9 = List.map eoBox a0 ∧ Real Try.prog 108 [.agg [.sl 5 a3]] (.agg [.ow 5 a9]) := ⟨_, rfl, by subst a2; exact r_spec_l15State A hA (⟨a0⟩ : GState) (by assumption)⟩
    have f9 := rlen_map hA e3
    refine ops_callV rfl rfl (by cbv) (by cbv) hc9 (.inr rfl) (by cbv) ?_
    refine ra hA 2 (by cbv) (od ?_)
    refine gs (gs (gr (ra hA 1 (by cbv) (od ?_))))
    refine go_block ?_
    refine go_loopE (fun σ m => ∃ (L : List GBox) (R : RR) (n : Int), σ = (S72_1 nv a1 n 1 u (ByteArray.mk #[105, 110, 98, 111, 120]) ByteArray.empty 0 R) ∧ (R = List.map eoBox L ∧ ((n = 0 ∧ L = a0) ∨ (n = 1 ∧ L = a0 ++ [nBox nv u]))) ∧ m = Int.toNat (1 - n)) _ [.up 26, .up 11, .up 6, .up 5, .up 3] [1, 5, 6, 9, 11, 12] [5, 6, 11, 26] (S72_1 nv a1 0 1 u (ByteArray.mk #[105, 110, 98, 111, 120]) ByteArray.empty 0 a9) rfl (by cbv) ⟨a0, a9, 0, rfl, ?_, rfl⟩ (fun σ m hI => ?_)
    ·
      exact ⟨by assumption, .inl ⟨rfl, rfl⟩⟩
    obtain ⟨L, R, n, rfl, ⟨hR, hinv⟩, rfl⟩ := hI
    refine gs (gs ?_)
    have le : A.rlen a1 = (1 : Int) := by
      rw [d2, recL, show modB a0 nv u = true from by rw [← c0]; assumption, if_pos rfl]; subst hA; rfl
    refine gr (ra hA 4 (by cbv) (od ?_))
    refine go_cond rfl (fun c10 => ?_) (fun c10 => ?_)
    ·
      have g6 : n < (A.rlen a1) := lss_t hA c10
      refine gk (gs ?_)
      refine go_block ?_
      have hn0 : n = 0 := by omega
      have hL0 : L = a0 := by
        rcases hinv with h | h
        · exact h.2
        · omega
      have hzL : ∀ q ∈ zsState (⟨L⟩ : GState), q ≤ 1048576 := by rw [hL0]; exact hz
      have hvL : ∀ b ∈ (⟨L⟩ : GState).Boxes, b.Valid < nv := by rw [hL0]; exact hvs
      have hm1 : recL a0 nv u = [recM nv u] := by rw [recL, show modB a0 nv u = true from by rw [← c0]; assumption, if_pos rfl]
      have e8 : a1[Int.toNat n]? = some [.int .i64 1, .int .i64 nv, .int .i64 0, .int .i64 1, .int .i64 0, .str u, .str (ByteArray.mk #[105, 110, 98, 111, 120]), .str ByteArray.empty] := by rw [d2, hm1, hn0]; rfl
      obtain ⟨a5, b4, e6⟩ : ∃ (a5 : RR), a5 = List.map eoBox (L ++ [nBox nv u]) ∧ Real Try.prog 109 [.agg [.sl 5 (eraseR R)], .agg [.int .i64 1, .int .i64 nv, .int .i64 0, .int .i64 1, .int .i64 0, .str u, .str (ByteArray.mk #[105, 110, 98, 111, 120]), .str ByteArray.empty]] (.agg [.ow 5 a5]) := ⟨_, rfl, by subst hR; simp only [erR_Box]; exact r_spec_l15Apply A hA (⟨L⟩ : GState) nv u (by assumption) (by assumption)⟩
      have f8 := rlen_map hA b4
      refine go_drawE [0, 1, 2, 3, 4, 5, 6] (by cbv) rfl rfl ({ sl := [.bad, .int .i64 nv, .bad, .bad, .bad, .pt 5 0 0, .pt 6 0 0, .bad, .bad, .sl 8 a1, .bad, .pt 11 0 0, .int .i64 n, .bad, .bad, .bad, .bad, .bad, .bad, .bad, .bad, .bad, .bad, .bad, .bad, .bad, .bad, .int .i64 n, .sl 8 a1, .int .i64 (A.rlen a1), .bool (A.cmp .lss n (A.rlen a1)), .bad, .bad, .agg [.own 26], .sl 8 a1, .int .i64 n, .rd [.int .i64 1, .int .i64 nv, .int .i64 0, .int .i64 1, .int .i64 0, .str u, .str (ByteArray.mk #[105, 110, 98, 111, 120]), .str ByteArray.empty], .agg [.int .i64 1, .int .i64 nv, .int .i64 0, .int .i64 1, .int .i64 0, .str u, .str (ByteArray.mk #[105, 110, 98, 111, 120]), .str ByteArray.empty], .agg [.own 38], .bad, .bad, .bad, .bad, .bad, .bad, .bad], bl := [(5, ⟨.var, 8, [[.int .i64 1, .str u, .str (ByteArray.mk #[105, 110, 98, 111, 120]), .str ByteArray.empty, .int .i64 0, .zc, .int .i64 0, .str ByteArray.empty]]⟩), (6, ⟨.var, 1, [[.zc]]⟩), (11, ⟨.var, 1, [[.own 38]]⟩), (26, ⟨.arr, 5, R⟩), (38, ⟨.arr, 5, a5⟩)] } : St) (fun dR dK dhR dhF => ?_) ?_
      ·
        have g0 : ∀ (dn : Nat), cntF [true, true, true, true, true, true, true] = dn → dwp T ⟨Real Try.prog, RealM Try.prog, RealC Try.prog⟩ dR dK dn [true, true, true, true, true, true, true] ({ sl := [.bad, .int .i64 nv, .bad, .bad, .bad, .pt 5 0 0, .pt 6 0 0, .bad, .bad, .sl 8 a1, .bad, .pt 11 0 0, .int .i64 n, .bad, .bad, .bad, .bad, .bad, .bad, .bad, .bad, .bad, .bad, .bad, .bad, .bad, .bad, .int .i64 n, .sl 8 a1, .int .i64 (A.rlen a1), .bool (A.cmp .lss n (A.rlen a1)), .bad, .bad, .agg [.own 26], .sl 8 a1, .int .i64 n, .rd [.int .i64 1, .int .i64 nv, .int .i64 0, .int .i64 1, .int .i64 0, .str u, .str (ByteArray.mk #[105, 110, 98, 111, 120]), .str ByteArray.empty], .agg [.int .i64 1, .int .i64 nv, .int .i64 0, .int .i64 1, .int .i64 0, .str u, .str (ByteArray.mk #[105, 110, 98, 111, 120]), .str ByteArray.empty], .agg [.own 38], .bad, .bad, .bad, .bad, .bad, .bad, .bad], bl := [(5, ⟨.var, 8, [[.int .i64 1, .str u, .str (ByteArray.mk #[105, 110, 98, 111, 120]), .str ByteArray.empty, .int .i64 0, .zc, .int .i64 0, .str ByteArray.empty]]⟩), (6, ⟨.var, 1, [[.zc]]⟩), (11, ⟨.var, 1, [[.own 38]]⟩), (26, ⟨.arr, 5, R⟩), (38, ⟨.arr, 5, a5⟩)] } : St) := by
          intro dn
          induction dn with
          | zero =>
            intro  dhn
            exact dwp_last dhF
          | succ dn ih =>
            intro  dhn
            subst dhR
            refine dwp_next (is := [0, 1, 2, 3, 4, 5, 6]) rfl ?_
            refine allRdy_none rfl ?_
            refine allRdy_none rfl ?_
            refine allRdy_none rfl ?_
            refine allRdy_none rfl ?_
            refine allRdy_none rfl ?_
            refine allRdy_none rfl ?_
            refine allRdy_none rfl ?_
            exact trivial
        have H_5 : ∀ (dn : Nat), cntF [true, true, true, true, true, true, false] = dn → dwp T ⟨Real Try.prog, RealM Try.prog, RealC Try.prog⟩ dR dK dn [true, true, true, true, true, true, false] ({ sl := [.bad, .int .i64 nv, .bad, .bad, .bad, .pt 5 0 0, .pt 6 0 0, .bad, .bad, .sl 8 a1, .bad, .pt 11 0 0, .int .i64 n, .bad, .bad, .bad, .bad, .bad, .bad, .bad, .bad, .bad, .bad, .bad, .bad, .bad, .bad, .int .i64 n, .sl 8 a1, .int .i64 (A.rlen a1), .bool (A.cmp .lss n (A.rlen a1)), .bad, .bad, .agg [.own 26], .sl 8 a1, .int .i64 n, .rd [.int .i64 1, .int .i64 nv, .int .i64 0, .int .i64 1, .int .i64 0, .str u, .str (ByteArray.mk #[105, 110, 98, 111, 120]), .str ByteArray.empty], .agg [.int .i64 1, .int .i64 nv, .int .i64 0, .int .i64 1, .int .i64 0, .str u, .str (ByteArray.mk #[105, 110, 98, 111, 120]), .str ByteArray.empty], .agg [.own 38], .bad, .bad, .bad, .bad, .bad, .bad, .bad], bl := [(5, ⟨.var, 8, [[.int .i64 1, .str u, .str (ByteArray.mk #[105, 110, 98, 111, 120]), .str ByteArray.empty, .int .i64 0, .zc, .int .i64 0, .str ByteArray.empty]]⟩), (6, ⟨.var, 1, [[.zc]]⟩), (11, ⟨.var, 1, [[.own 26]]⟩), (26, ⟨.arr, 5, R⟩), (38, ⟨.arr, 5, a5⟩)] } : St) := by
          intro dn
          induction dn with
          | zero =>
            intro  dhn
            exact absurd (show false = true from cntF_zero  _ dhn 6 (by show 6 < 7; decide)) (by decide)
          | succ dn ih =>
            intro  dhn
            subst dhR
            refine dwp_next (is := [0, 1, 2, 3, 4, 5, 6]) rfl ?_
            refine allRdy_none rfl ?_
            refine allRdy_none rfl ?_
            refine allRdy_none rfl ?_
            refine allRdy_none rfl ?_
            refine allRdy_none rfl ?_
            refine allRdy_none rfl ?_
            refine allRdy_q rfl rfl (fun h0 h1 => ?_) ?_
            ·
              refine ra hA 1 (by cbv) ?_
              exact ops_done (dwp_to [] (by cbv) rfl (g0 dn (cnt_dec h0 (by show 6 < 7; decide) dhn)))
            exact trivial
        have H_ : ∀ (dn : Nat) (dB0 : Bool) (dB1 : Bool) (dB2 : Bool) (dB3 : Bool) (dB4 : Bool) (dQ0 : PV) (dQ1 : PV) (dQ2 : PV) (dQ3 : PV) (dQ4 : PV), (dB0 = true → dQ0 = .agg [.own 26]) → (dB1 = true → dQ1 = .sl 8 a1) → (dB2 = true → dQ2 = .int .i64 n) → (dB3 = true → dQ3 = .rd [.int .i64 1, .int .i64 nv, .int .i64 0, .int .i64 1, .int .i64 0, .str u, .str (ByteArray.mk #[105, 110, 98, 111, 120]), .str ByteArray.empty]) → (dB4 = true → dQ4 = .agg [.int .i64 1, .int .i64 nv, .int .i64 0, .int .i64 1, .int .i64 0, .str u, .str (ByteArray.mk #[105, 110, 98, 111, 120]), .str ByteArray.empty]) → (dB3 = true → dB1 = true) → (dB3 = true → dB2 = true) → (dB4 = true → dB3 = true) → cntF [dB0, dB1, dB2, dB3, dB4, false, false] = dn → dwp T ⟨Real Try.prog, RealM Try.prog, RealC Try.prog⟩ dR dK dn [dB0, dB1, dB2, dB3, dB4, false, false] ({ sl := [.bad, .int .i64 nv, .bad, .bad, .bad, .pt 5 0 0, .pt 6 0 0, .bad, .bad, .sl 8 a1, .bad, .pt 11 0 0, .int .i64 n, .bad, .bad, .bad, .bad, .bad, .bad, .bad, .bad, .bad, .bad, .bad, .bad, .bad, .bad, .int .i64 n, .sl 8 a1, .int .i64 (A.rlen a1), .bool (A.cmp .lss n (A.rlen a1)), .bad, .bad, dQ0, dQ1, dQ2, dQ3, dQ4, .bad, .bad, .bad, .bad, .bad, .bad, .bad, .bad], bl := [(5, ⟨.var, 8, [[.int .i64 1, .str u, .str (ByteArray.mk #[105, 110, 98, 111, 120]), .str ByteArray.empty, .int .i64 0, .zc, .int .i64 0, .str ByteArray.empty]]⟩), (6, ⟨.var, 1, [[.zc]]⟩), (11, ⟨.var, 1, [[.own 26]]⟩), (26, ⟨.arr, 5, R⟩)] } : St) := by
          intro dn
          induction dn with
          | zero =>
            intro dB0 dB1 dB2 dB3 dB4 dQ0 dQ1 dQ2 dQ3 dQ4 dh0 dh1 dh2 dh3 dh4 d6 d4 d5 dhn
            exact absurd (show false = true from cntF_zero  _ dhn 5 (by show 5 < 7; decide)) (by decide)
          | succ dn ih =>
            intro dB0 dB1 dB2 dB3 dB4 dQ0 dQ1 dQ2 dQ3 dQ4 dh0 dh1 dh2 dh3 dh4 d6 d4 d5 dhn
            subst dhR
            refine dwp_next (is := [0, 1, 2, 3, 4, 5, 6]) rfl ?_
            refine allRdy_q rfl rfl (fun h0 h1 => ?_) ?_
            ·
              cases (show dB0 = false from h0)
              refine ra hA 1 (by cbv) ?_
              exact ops_done (dwp_to [] (by cbv) rfl (ih true dB1 dB2 dB3 dB4 (.agg [.own 26]) (dQ1) (dQ2) (dQ3) (dQ4) (fun _ => rfl) dh1 dh2 dh3 dh4 d6 d4 d5 (cnt_dec h0 (by show 0 < 7; decide) dhn)))
            refine allRdy_q rfl rfl (fun h0 h1 => ?_) ?_
            ·
              cases (show dB1 = false from h0)
              refine ra hA 1 (by cbv) ?_
              exact ops_done (dwp_to [] (by cbv) rfl (ih dB0 true dB2 dB3 dB4 (dQ0) (.sl 8 a1) (dQ2) (dQ3) (dQ4) dh0 (fun _ => rfl) dh2 dh3 dh4 (fun _ => rfl) d4 d5 (cnt_dec h0 (by show 1 < 7; decide) dhn)))
            refine allRdy_q rfl rfl (fun h0 h1 => ?_) ?_
            ·
              cases (show dB2 = false from h0)
              refine ra hA 1 (by cbv) ?_
              exact ops_done (dwp_to [] (by cbv) rfl (ih dB0 dB1 true dB3 dB4 (dQ0) (dQ1) (.int .i64 n) (dQ3) (dQ4) dh0 dh1 (fun _ => rfl) dh3 dh4 d6 (fun _ => rfl) d5 (cnt_dec h0 (by show 2 < 7; decide) dhn)))
            refine allRdy_q rfl rfl (fun h0 h1 => ?_) ?_
            ·
              cases (show dB3 = false from h0)
              obtain rfl : dB1 = true := h1.1
              obtain rfl := dh1 rfl
              obtain rfl : dB2 = true := h1.2.1
              obtain rfl := dh2 rfl
              refine ops_step rfl rfl (idx_sl rfl rfl rfl rfl rfl (by omega) rfl e8) ?_
              exact ops_done (dwp_to [] (by cbv) rfl (ih dB0 true true true dB4 (dQ0) (.sl 8 a1) (.int .i64 n) (.rd [.int .i64 1, .int .i64 nv, .int .i64 0, .int .i64 1, .int .i64 0, .str u, .str (ByteArray.mk #[105, 110, 98, 111, 120]), .str ByteArray.empty]) (dQ4) dh0 (fun _ => rfl) (fun _ => rfl) (fun _ => rfl) dh4 (fun _ => rfl) (fun _ => rfl) (fun _ => rfl) (cnt_dec h0 (by show 3 < 7; decide) dhn)))
            refine allRdy_q rfl rfl (fun h0 h1 => ?_) ?_
            ·
              cases (show dB4 = false from h0)
              obtain rfl : dB3 = true := h1.1
              obtain rfl := dh3 rfl
              obtain rfl : dB1 = true := d6 rfl
              obtain rfl := dh1 rfl
              obtain rfl : dB2 = true := d4 rfl
              obtain rfl := dh2 rfl
              refine ra hA 1 (by cbv) ?_
              exact ops_done (dwp_to [] (by cbv) rfl (ih dB0 true true true true (dQ0) (.sl 8 a1) (.int .i64 n) (.rd [.int .i64 1, .int .i64 nv, .int .i64 0, .int .i64 1, .int .i64 0, .str u, .str (ByteArray.mk #[105, 110, 98, 111, 120]), .str ByteArray.empty]) (.agg [.int .i64 1, .int .i64 nv, .int .i64 0, .int .i64 1, .int .i64 0, .str u, .str (ByteArray.mk #[105, 110, 98, 111, 120]), .str ByteArray.empty]) dh0 (fun _ => rfl) (fun _ => rfl) (fun _ => rfl) (fun _ => rfl) (fun _ => rfl) (fun _ => rfl) (fun _ => rfl) (cnt_dec h0 (by show 4 < 7; decide) dhn)))
            refine allRdy_q rfl rfl (fun h0 h1 => ?_) ?_
            ·
              obtain rfl : dB0 = true := h1.1
              obtain rfl := dh0 rfl
              obtain rfl : dB4 = true := h1.2.1
              obtain rfl := dh4 rfl
              obtain rfl : dB3 = true := d5 rfl
              obtain rfl := dh3 rfl
              obtain rfl : dB1 = true := d6 rfl
              obtain rfl := dh1 rfl
              obtain rfl : dB2 = true := d4 rfl
              obtain rfl := dh2 rfl
              refine ops_callV rfl rfl (by cbv) (by cbv) e6 (.inl (by simp only [fresh, freshL, b4, frR_Box, and_self])) (by cbv) ?_
              exact ops_done (dwp_to [.up 38, .up 26, .up 11, .up 6, .up 5] (by cbv) rfl (H_5 dn (cnt_dec h0 (by show 5 < 7; decide) dhn)))
            refine allRdy_q rfl rfl (fun _ h1 => absurd (show false = true from h1.1) (by decide)) ?_
            exact trivial
        exact dwp_to [] (by cbv) rfl (H_ 7 false false false false false (.bad) (.bad) (.bad) (.bad) (.bad) (fun h => absurd h (by decide)) (fun h => absurd h (by decide)) (fun h => absurd h (by decide)) (fun h => absurd h (by decide)) (fun h => absurd h (by decide)) (fun h => absurd h (by decide)) (fun h => absurd h (by decide)) (fun h => absurd h (by decide)) rfl)
      refine gB (ra hA 3 (by cbv) ?_)
      refine ops_doneB (tw := [.drop 26, .ren 38 26, .up 26, .up 11, .up 6, .up 5]) (by cbv) ?_
      refine ⟨(S72_1 nv a1 (A.num .add .i64 n 1) 1 u (ByteArray.mk #[105, 110, 98, 111, 120]) ByteArray.empty 0 a5), Int.toNat (1 - (A.num .add .i64 n 1)), ?_, by cbv, (L ++ [nBox nv u]), a5, (A.num .add .i64 n 1), rfl, ?_, rfl⟩
      ·
        have := add_i64 hA (a := n) (b := 1) (by omega) (by omega); omega
      ·
        exact ⟨b4, .inr ⟨by rw [add_i64 hA (by omega) (by omega)]; omega, by rw [hL0]⟩⟩
    ·
      have g6 : (A.rlen a1) ≤ n := lss_f hA c10
      refine go_exit ⟨fun _ => ?_, fun h => absurd rfl h⟩
      refine gs (gs (gr (ra hA 3 (by cbv) (od ?_))))
      refine go_cond rfl (fun c14 => ?_) (fun c14 => ?_)
      ·
        refine gr (ra hA 3 (by cbv) (od ?_))
        refine gs (gr (ra hA 5 (by cbv) (od ?_)))
        refine go_ret ⟨_, by cbv, ?_⟩
        show _ = PV.tup [.agg [.ow 5 R], .int .i64 (A.num .add .i64 nv 1), .int .i64 0]
        have E : modB a0 nv u = true := by rw [← c0]; assumption
        have E2 : A.num .add .i64 nv 1 = nv + 1 := add_i64 hA (by omega) (by omega)
        have E3 : L = a0 ++ [nBox nv u] := by
          rcases hinv with h | h
          · omega
          · exact h.2
        simp only [modL, modN, modC, E, if_true, E2, hR, E3]
        rfl
      ·
        exact no_f c14 (show (A.cmp .eql 1 1) = true from by subst hA; rfl)
end Go.Av

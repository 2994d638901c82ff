/- Walks: copies. -/
import Derived.Test.YtjbokkoiicoahaaGreatTm
namespace Go.Av
open Go Go.Proofs
set_option maxRecDepth 100000
set_option maxHeartbeats 4000000
set_option linter.unusedVariables false
set_option linter.unusedSimpArgs false
set_option maxHeartbeats 40000000
theorem r_spec_l19Copy (A : Alg) (hA : A = std) (x : GBring) (hz : ∀ k ∈ zsBring x, k ≤ 1048576) : Real Tryz.prog 90 [.agg (eBring x)] (.agg (eoBring x)) := by
 obtain ⟨a4, a6, c2, b8⟩ := x
 obtain ⟨a8, b5⟩ := nm (c2.map eString)
 have c6 := rlen_map hA b5
 obtain ⟨a3, b4⟩ := nm (b8.map eString)
 have c5 := rlen_map hA b4
 refine real_args (args' := [.agg [.ii a4, .str a6, .sl 1 a8, .sl 1 a3]]) (by subst b5 b4; rfl) ?_
 have n0 : List.length c2 ≤ 1048576 := hz _ (by simp [zsBring, zsStringS])
 have n1 : List.length b8 ≤ 1048576 := hz _ (by simp [zsBring, zsStringS])
 refine real tyOk Tryz.func90 (by kernel_rfl) (afun_of rfl ?_)
 refine gx hA 2 ?_
 refine gs ?_
 obtain ⟨r1, hr1⟩ := nm (([]) ++ a8 : RR)
 have er1 : r1 = List.map eString (([]) ++ c2) := by rw [hr1]; exact app_eq rfl b5
 have lr1 := rlen_map hA er1
 obtain ⟨r2, hr2⟩ := nm (([]) ++ a3 : RR)
 have er2 : r2 = List.map eString (([]) ++ b8) := by rw [hr2]; exact app_eq rfl b4
 have lr2 := rlen_map hA er2
 refine go_drawE [0, 1, 2, 3, 4, 5, 6, 7, 8, 9, 10, 11, 12, 13] (by cbv) rfl rfl ({ sl := [.agg [.ii a4, .str a6, .sl 1 a8, .sl 1 a3], .pt 1 0 0, .pt 2 0 0, .pt 1 0 0, .ii a4, .pt 1 0 1, .str a6, .bad, .pt 1 0 2, .sl 1 a8, .own 7, .bad, .pt 1 0 3, .sl 1 a3, .own 11, .agg [.ii a4, .str a6, .own 7, .own 11]], bl := [(1, ⟨.var, 4, [[.ii a4, .str a6, .sl 1 a8, .sl 1 a3]]⟩), (2, ⟨.var, 4, [[.ii a4, .str a6, .own 7, .own 11]]⟩), (7, ⟨.arr, 1, r1⟩), (11, ⟨.arr, 1, r2⟩)] } : St) (fun dR dK dhR dhF => ?_) ?_
 ·
  have b7 : ∀ (dn : Nat), cntF [true, true, true, true, true, true, true, true, true, true, true, true, true, true] = dn → dwp T ⟨Real Tryz.prog, RealM Tryz.prog, RealC Tryz.prog⟩ dR dK dn [true, true, true, true, true, true, true, true, true, true, true, true, true, true] ({ sl := [.agg [.ii a4, .str a6, .sl 1 a8, .sl 1 a3], .pt 1 0 0, .pt 2 0 0, .pt 1 0 0, .ii a4, .pt 1 0 1, .str a6, .bad, .pt 1 0 2, .sl 1 a8, .own 7, .bad, .pt 1 0 3, .sl 1 a3, .own 11, .agg [.ii a4, .str a6, .own 7, .own 11]], bl := [(1, ⟨.var, 4, [[.ii a4, .str a6, .sl 1 a8, .sl 1 a3]]⟩), (2, ⟨.var, 4, [[.ii a4, .str a6, .own 7, .own 11]]⟩), (7, ⟨.arr, 1, r1⟩), (11, ⟨.arr, 1, r2⟩)] } : St) := by
   intro dn
   induction dn with
   | zero =>
    intro  dhn
    exact dwp_last dhF
   | succ dn ih =>
    intro  dhn
    subst dhR
    refine dwp_next (is := [0, 1, 2, 3, 4, 5, 6, 7, 8, 9, 10, 11, 12, 13]) rfl ?_
    refine allRdy_none rfl ?_
    refine allRdy_none rfl ?_
    refine allRdy_none rfl ?_
    refine allRdy_none rfl ?_
    refine allRdy_none rfl ?_
    refine allRdy_none rfl ?_
    refine allRdy_none rfl ?_
    refine allRdy_none rfl ?_
    refine allRdy_none rfl ?_
    refine allRdy_none rfl ?_
    refine allRdy_none rfl ?_
    refine allRdy_none rfl ?_
    refine allRdy_none rfl ?_
    refine allRdy_none rfl ?_
    exact trivial
  have c1 : ∀ (dn : Nat) {dB0 dB1 dB2 dB3 b1 : Bool} {dQ0 dQ1 dQ2 dQ3 c0 : PV}, (dB0 = true → dQ0 = .pt 1 0 0) → (dB1 = true → dQ1 = .ii a4) → (dB2 = true → dQ2 = .pt 1 0 1) → (dB3 = true → dQ3 = .str a6) → (b1 = true → c0 = .agg [.ii a4, .str a6, .own 7, .own 11]) → (dB1 = true → dB0 = true) → (dB3 = true → dB2 = true) → (b1 = true → dB1 = true) → (b1 = true → dB3 = true) → cntF [dB0, dB1, dB2, dB3, true, true, true, true, true, true, true, true, b1, false] = dn → dwp T ⟨Real Tryz.prog, RealM Tryz.prog, RealC Tryz.prog⟩ dR dK dn [dB0, dB1, dB2, dB3, true, true, true, true, true, true, true, true, b1, false] ({ sl := [.agg [.ii a4, .str a6, .sl 1 a8, .sl 1 a3], .pt 1 0 0, .pt 2 0 0, dQ0, dQ1, dQ2, dQ3, .bad, .pt 1 0 2, .sl 1 a8, .own 7, .bad, .pt 1 0 3, .sl 1 a3, .own 11, c0], bl := [(1, ⟨.var, 4, [[.ii a4, .str a6, .sl 1 a8, .sl 1 a3]]⟩), (2, ⟨.var, 4, [[.ii 0, .str ByteArray.empty, .zc, .zc]]⟩), (7, ⟨.arr, 1, r1⟩), (11, ⟨.arr, 1, r2⟩)] } : St) := by
   intro dn
   induction dn with
   | zero =>
    intro dB0 dB1 dB2 dB3 b1 dQ0 dQ1 dQ2 dQ3 c0 dh0 dh1 dh2 dh3 b6 a1 a2 b2 b3 dhn
    exact absurd (show false = true from cntF_zero  _ dhn 13 (by show 13 < 14; decide)) (by decide)
   | succ dn ih =>
    intro dB0 dB1 dB2 dB3 b1 dQ0 dQ1 dQ2 dQ3 c0 dh0 dh1 dh2 dh3 b6 a1 a2 b2 b3 dhn
    subst dhR
    refine dwp_next (is := [0, 1, 2, 3, 4, 5, 6, 7, 8, 9, 10, 11, 12, 13]) rfl ?_
    refine allRdy_q rfl rfl (fun h0 h1 => ?_) ?_
    ·
     cases (show dB0 = false from h0)
     refine rn hA 1 ?_
     refine ow_ ?_
     exact ih (fun _ => rfl) dh1 dh2 dh3 b6 (fun _ => rfl) a2 b2 b3 (cnt_dec h0 (by show 0 < 14; decide) dhn)
    refine allRdy_q rfl rfl (fun h0 h1 => ?_) ?_
    ·
     cases (show dB1 = false from h0)
     obtain rfl : dB0 = true := h1.1
     obtain rfl := dh0 rfl
     refine rn hA 1 ?_
     refine ow_ ?_
     exact ih (fun _ => rfl) (fun _ => rfl) dh2 dh3 b6 (fun _ => rfl) a2 (fun _ => rfl) b3 (cnt_dec h0 (by show 1 < 14; decide) dhn)
    refine allRdy_q rfl rfl (fun h0 h1 => ?_) ?_
    ·
     cases (show dB2 = false from h0)
     refine rn hA 1 ?_
     refine ow_ ?_
     exact ih dh0 dh1 (fun _ => rfl) dh3 b6 a1 (fun _ => rfl) b2 b3 (cnt_dec h0 (by show 2 < 14; decide) dhn)
    refine allRdy_q rfl rfl (fun h0 h1 => ?_) ?_
    ·
     cases (show dB3 = false from h0)
     obtain rfl : dB2 = true := h1.1
     obtain rfl := dh2 rfl
     refine rn hA 1 ?_
     refine ow_ ?_
     exact ih dh0 dh1 (fun _ => rfl) (fun _ => rfl) b6 a1 (fun _ => rfl) b2 (fun _ => rfl) (cnt_dec h0 (by show 3 < 14; decide) dhn)
    refine allRdy_none rfl ?_
    refine allRdy_none rfl ?_
    refine allRdy_none rfl ?_
    refine allRdy_none rfl ?_
    refine allRdy_none rfl ?_
    refine allRdy_none rfl ?_
    refine allRdy_none rfl ?_
    refine allRdy_none rfl ?_
    refine allRdy_q rfl rfl (fun h0 h1 => ?_) ?_
    ·
     cases (show b1 = false from h0)
     obtain rfl : dB1 = true := h1.1
     obtain rfl := dh1 rfl
     obtain rfl : dB0 = true := a1 rfl
     obtain rfl := dh0 rfl
     obtain rfl : dB3 = true := h1.2.1
     obtain rfl := dh3 rfl
     obtain rfl : dB2 = true := a2 rfl
     obtain rfl := dh2 rfl
     refine rn hA 1 ?_
     refine ow_ ?_
     exact ih (fun _ => rfl) (fun _ => rfl) (fun _ => rfl) (fun _ => rfl) (fun _ => rfl) (fun _ => rfl) (fun _ => rfl) (fun _ => rfl) (fun _ => rfl) (cnt_dec h0 (by show 12 < 14; decide) dhn)
    refine allRdy_q rfl rfl (fun h0 h1 => ?_) ?_
    ·
     obtain rfl : b1 = true := h1.1
     obtain rfl := b6 rfl
     obtain rfl : dB1 = true := b2 rfl
     obtain rfl := dh1 rfl
     obtain rfl : dB0 = true := a1 rfl
     obtain rfl := dh0 rfl
     obtain rfl : dB3 = true := b3 rfl
     obtain rfl := dh3 rfl
     obtain rfl : dB2 = true := a2 rfl
     obtain rfl := dh2 rfl
     refine rn hA 1 ?_
     refine ow_ ?_
     exact b7 dn (cnt_dec h0 (by show 13 < 14; decide) dhn)
    exact trivial
  have b9 : ∀ (dn : Nat) {dB0 dB1 dB2 dB3 dB9 a7 : Bool} {dQ0 dQ1 dQ2 dQ3 dQ9 b0 : PV}, (dB0 = true → dQ0 = .pt 1 0 0) → (dB1 = true → dQ1 = .ii a4) → (dB2 = true → dQ2 = .pt 1 0 1) → (dB3 = true → dQ3 = .str a6) → (dB9 = true → dQ9 = .pt 1 0 3) → (a7 = true → b0 = .sl 1 a3) → (dB1 = true → dB0 = true) → (dB3 = true → dB2 = true) → (a7 = true → dB9 = true) → cntF [dB0, dB1, dB2, dB3, true, true, true, true, true, dB9, a7, false, false, false] = dn → dwp T ⟨Real Tryz.prog, RealM Tryz.prog, RealC Tryz.prog⟩ dR dK dn [dB0, dB1, dB2, dB3, true, true, true, true, true, dB9, a7, false, false, false] ({ sl := [.agg [.ii a4, .str a6, .sl 1 a8, .sl 1 a3], .pt 1 0 0, .pt 2 0 0, dQ0, dQ1, dQ2, dQ3, .bad, .pt 1 0 2, .sl 1 a8, .own 7, .own 11, dQ9, b0, .bad, .bad], bl := [(1, ⟨.var, 4, [[.ii a4, .str a6, .sl 1 a8, .sl 1 a3]]⟩), (2, ⟨.var, 4, [[.ii 0, .str ByteArray.empty, .zc, .zc]]⟩), (7, ⟨.arr, 1, r1⟩), (11, ⟨.arr, 1, []⟩)] } : St) := by
   intro dn
   induction dn with
   | zero =>
    intro dB0 dB1 dB2 dB3 dB9 a7 dQ0 dQ1 dQ2 dQ3 dQ9 b0 dh0 dh1 dh2 dh3 dh9 a5 a1 a2 a0 dhn
    exact absurd (show false = true from cntF_zero  _ dhn 11 (by show 11 < 14; decide)) (by decide)
   | succ dn ih =>
    intro dB0 dB1 dB2 dB3 dB9 a7 dQ0 dQ1 dQ2 dQ3 dQ9 b0 dh0 dh1 dh2 dh3 dh9 a5 a1 a2 a0 dhn
    subst dhR
    refine dwp_next (is := [0, 1, 2, 3, 4, 5, 6, 7, 8, 9, 10, 11, 12, 13]) rfl ?_
    refine allRdy_q rfl rfl (fun h0 h1 => ?_) ?_
    ·
     cases (show dB0 = false from h0)
     refine rn hA 1 ?_
     refine ow_ ?_
     exact ih (fun _ => rfl) dh1 dh2 dh3 dh9 a5 (fun _ => rfl) a2 a0 (cnt_dec h0 (by show 0 < 14; decide) dhn)
    refine allRdy_q rfl rfl (fun h0 h1 => ?_) ?_
    ·
     cases (show dB1 = false from h0)
     obtain rfl : dB0 = true := h1.1
     obtain rfl := dh0 rfl
     refine rn hA 1 ?_
     refine ow_ ?_
     exact ih (fun _ => rfl) (fun _ => rfl) dh2 dh3 dh9 a5 (fun _ => rfl) a2 a0 (cnt_dec h0 (by show 1 < 14; decide) dhn)
    refine allRdy_q rfl rfl (fun h0 h1 => ?_) ?_
    ·
     cases (show dB2 = false from h0)
     refine rn hA 1 ?_
     refine ow_ ?_
     exact ih dh0 dh1 (fun _ => rfl) dh3 dh9 a5 a1 (fun _ => rfl) a0 (cnt_dec h0 (by show 2 < 14; decide) dhn)
    refine allRdy_q rfl rfl (fun h0 h1 => ?_) ?_
    ·
     cases (show dB3 = false from h0)
     obtain rfl : dB2 = true := h1.1
     obtain rfl := dh2 rfl
     refine rn hA 1 ?_
     refine ow_ ?_
     exact ih dh0 dh1 (fun _ => rfl) (fun _ => rfl) dh9 a5 a1 (fun _ => rfl) a0 (cnt_dec h0 (by show 3 < 14; decide) dhn)
    refine allRdy_none rfl ?_
    refine allRdy_none rfl ?_
    refine allRdy_none rfl ?_
    refine allRdy_none rfl ?_
    refine allRdy_none rfl ?_
    refine allRdy_q rfl rfl (fun h0 h1 => ?_) ?_
    ·
     cases (show dB9 = false from h0)
     refine rn hA 1 ?_
     refine ow_ ?_
     exact ih dh0 dh1 dh2 dh3 (fun _ => rfl) a5 a1 a2 (fun _ => rfl) (cnt_dec h0 (by show 9 < 14; decide) dhn)
    refine allRdy_q rfl rfl (fun h0 h1 => ?_) ?_
    ·
     cases (show a7 = false from h0)
     obtain rfl : dB9 = true := h1.1
     obtain rfl := dh9 rfl
     refine rn hA 1 ?_
     refine ow_ ?_
     exact ih dh0 dh1 dh2 dh3 (fun _ => rfl) (fun _ => rfl) a1 a2 (fun _ => rfl) (cnt_dec h0 (by show 10 < 14; decide) dhn)
    refine allRdy_q rfl rfl (fun h0 h1 => ?_) ?_
    ·
     obtain rfl : a7 = true := h1.2.1
     obtain rfl := a5 rfl
     obtain rfl : dB9 = true := a0 rfl
     obtain rfl := dh9 rfl
     refine ops_step rfl rfl (app_own rfl rfl rfl rfl rfl rfl rfl rfl hr2 (by cbv) (by cbv) (by cbv) rfl (by
      show (List.length ([]) + List.length a3) * _ ≤ _
      simp only [List.length_nil, List.length_map, Nat.zero_add, *]
      omega) (by decide) (by decide)) ?_
     exact ops_done (dwp_to [] (by rfl) rfl (@c1 dn dB0 dB1 dB2 dB3 false ((kill 11 dQ0)) ((kill 11 dQ1)) ((kill 11 dQ2)) ((kill 11 dQ3)) (.bad) (fun h => by rw [dh0 h]; rfl) (fun h => by rw [dh1 h]; rfl) (fun h => by rw [dh2 h]; rfl) (fun h => by rw [dh3 h]; rfl) (fun h => absurd h (by decide)) a1 a2 (fun h => absurd h (by decide)) (fun h => absurd h (by decide)) (cnt_dec h0 (by show 11 < 14; decide) dhn)))
    refine allRdy_q rfl rfl (fun _ h1 => absurd (show false = true from h1.2.2.2.1) (by decide)) ?_
    refine allRdy_q rfl rfl (fun _ h1 => absurd (show false = true from h1.1) (by decide)) ?_
    exact trivial
  have c4 : ∀ (dn : Nat) {dB0 dB1 dB2 dB3 dB9 a7 : Bool} {dQ0 dQ1 dQ2 dQ3 dQ9 b0 : PV}, (dB0 = true → dQ0 = .pt 1 0 0) → (dB1 = true → dQ1 = .ii a4) → (dB2 = true → dQ2 = .pt 1 0 1) → (dB3 = true → dQ3 = .str a6) → (dB9 = true → dQ9 = .pt 1 0 3) → (a7 = true → b0 = .sl 1 a3) → (dB1 = true → dB0 = true) → (dB3 = true → dB2 = true) → (a7 = true → dB9 = true) → cntF [dB0, dB1, dB2, dB3, true, true, true, true, false, dB9, a7, false, false, false] = dn → dwp T ⟨Real Tryz.prog, RealM Tryz.prog, RealC Tryz.prog⟩ dR dK dn [dB0, dB1, dB2, dB3, true, true, true, true, false, dB9, a7, false, false, false] ({ sl := [.agg [.ii a4, .str a6, .sl 1 a8, .sl 1 a3], .pt 1 0 0, .pt 2 0 0, dQ0, dQ1, dQ2, dQ3, .bad, .pt 1 0 2, .sl 1 a8, .own 7, .bad, dQ9, b0, .bad, .bad], bl := [(1, ⟨.var, 4, [[.ii a4, .str a6, .sl 1 a8, .sl 1 a3]]⟩), (2, ⟨.var, 4, [[.ii 0, .str ByteArray.empty, .zc, .zc]]⟩), (7, ⟨.arr, 1, r1⟩)] } : St) := by
   intro dn
   induction dn with
   | zero =>
    intro dB0 dB1 dB2 dB3 dB9 a7 dQ0 dQ1 dQ2 dQ3 dQ9 b0 dh0 dh1 dh2 dh3 dh9 a5 a1 a2 a0 dhn
    exact absurd (show false = true from cntF_zero  _ dhn 8 (by show 8 < 14; decide)) (by decide)
   | succ dn ih =>
    intro dB0 dB1 dB2 dB3 dB9 a7 dQ0 dQ1 dQ2 dQ3 dQ9 b0 dh0 dh1 dh2 dh3 dh9 a5 a1 a2 a0 dhn
    subst dhR
    refine dwp_next (is := [0, 1, 2, 3, 4, 5, 6, 7, 8, 9, 10, 11, 12, 13]) rfl ?_
    refine allRdy_q rfl rfl (fun h0 h1 => ?_) ?_
    ·
     cases (show dB0 = false from h0)
     refine rn hA 1 ?_
     refine ow_ ?_
     exact ih (fun _ => rfl) dh1 dh2 dh3 dh9 a5 (fun _ => rfl) a2 a0 (cnt_dec h0 (by show 0 < 14; decide) dhn)
    refine allRdy_q rfl rfl (fun h0 h1 => ?_) ?_
    ·
     cases (show dB1 = false from h0)
     obtain rfl : dB0 = true := h1.1
     obtain rfl := dh0 rfl
     refine rn hA 1 ?_
     refine ow_ ?_
     exact ih (fun _ => rfl) (fun _ => rfl) dh2 dh3 dh9 a5 (fun _ => rfl) a2 a0 (cnt_dec h0 (by show 1 < 14; decide) dhn)
    refine allRdy_q rfl rfl (fun h0 h1 => ?_) ?_
    ·
     cases (show dB2 = false from h0)
     refine rn hA 1 ?_
     refine ow_ ?_
     exact ih dh0 dh1 (fun _ => rfl) dh3 dh9 a5 a1 (fun _ => rfl) a0 (cnt_dec h0 (by show 2 < 14; decide) dhn)
    refine allRdy_q rfl rfl (fun h0 h1 => ?_) ?_
    ·
     cases (show dB3 = false from h0)
     obtain rfl : dB2 = true := h1.1
     obtain rfl := dh2 rfl
     refine rn hA 1 ?_
     refine ow_ ?_
     exact ih dh0 dh1 (fun _ => rfl) (fun _ => rfl) dh9 a5 a1 (fun _ => rfl) a0 (cnt_dec h0 (by show 3 < 14; decide) dhn)
    refine allRdy_none rfl ?_
    refine allRdy_none rfl ?_
    refine allRdy_none rfl ?_
    refine allRdy_none rfl ?_
    refine allRdy_q rfl rfl (fun h0 h1 => ?_) ?_
    ·
     refine rn hA 1 ?_
     refine ops_done (dwp_to [.up 11, .up 7, .up 2, .up 1] (by cbv) rfl ?_)
     exact b9 dn dh0 dh1 dh2 dh3 dh9 a5 a1 a2 a0 (cnt_dec h0 (by show 8 < 14; decide) dhn)
    refine allRdy_q rfl rfl (fun h0 h1 => ?_) ?_
    ·
     cases (show dB9 = false from h0)
     refine rn hA 1 ?_
     refine ow_ ?_
     exact ih dh0 dh1 dh2 dh3 (fun _ => rfl) a5 a1 a2 (fun _ => rfl) (cnt_dec h0 (by show 9 < 14; decide) dhn)
    refine allRdy_q rfl rfl (fun h0 h1 => ?_) ?_
    ·
     cases (show a7 = false from h0)
     obtain rfl : dB9 = true := h1.1
     obtain rfl := dh9 rfl
     refine rn hA 1 ?_
     refine ow_ ?_
     exact ih dh0 dh1 dh2 dh3 (fun _ => rfl) (fun _ => rfl) a1 a2 (fun _ => rfl) (cnt_dec h0 (by show 10 < 14; decide) dhn)
    refine allRdy_q rfl rfl (fun _ h1 => absurd (show false = true from h1.1) (by decide)) ?_
    refine allRdy_q rfl rfl (fun _ h1 => absurd (show false = true from h1.2.2.2.1) (by decide)) ?_
    refine allRdy_q rfl rfl (fun _ h1 => absurd (show false = true from h1.1) (by decide)) ?_
    exact trivial
  have c3 : ∀ (dn : Nat) {dB0 dB1 dB2 dB3 dB5 dB6 dB9 a7 : Bool} {dQ0 dQ1 dQ2 dQ3 dQ5 dQ6 dQ9 b0 : PV}, (dB0 = true → dQ0 = .pt 1 0 0) → (dB1 = true → dQ1 = .ii a4) → (dB2 = true → dQ2 = .pt 1 0 1) → (dB3 = true → dQ3 = .str a6) → (dB5 = true → dQ5 = .pt 1 0 2) → (dB6 = true → dQ6 = .sl 1 a8) → (dB9 = true → dQ9 = .pt 1 0 3) → (a7 = true → b0 = .sl 1 a3) → (dB1 = true → dB0 = true) → (dB3 = true → dB2 = true) → (dB6 = true → dB5 = true) → (a7 = true → dB9 = true) → cntF [dB0, dB1, dB2, dB3, true, dB5, dB6, false, true, dB9, a7, false, false, false] = dn → dwp T ⟨Real Tryz.prog, RealM Tryz.prog, RealC Tryz.prog⟩ dR dK dn [dB0, dB1, dB2, dB3, true, dB5, dB6, false, true, dB9, a7, false, false, false] ({ sl := [.agg [.ii a4, .str a6, .sl 1 a8, .sl 1 a3], .pt 1 0 0, .pt 2 0 0, dQ0, dQ1, dQ2, dQ3, .own 7, dQ5, dQ6, .bad, .own 11, dQ9, b0, .bad, .bad], bl := [(1, ⟨.var, 4, [[.ii a4, .str a6, .sl 1 a8, .sl 1 a3]]⟩), (2, ⟨.var, 4, [[.ii 0, .str ByteArray.empty, .zc, .zc]]⟩), (7, ⟨.arr, 1, []⟩), (11, ⟨.arr, 1, []⟩)] } : St) := by
   intro dn
   induction dn with
   | zero =>
    intro dB0 dB1 dB2 dB3 dB5 dB6 dB9 a7 dQ0 dQ1 dQ2 dQ3 dQ5 dQ6 dQ9 b0 dh0 dh1 dh2 dh3 dh5 dh6 dh9 a5 a1 a2 a9 a0 dhn
    exact absurd (show false = true from cntF_zero  _ dhn 7 (by show 7 < 14; decide)) (by decide)
   | succ dn ih =>
    intro dB0 dB1 dB2 dB3 dB5 dB6 dB9 a7 dQ0 dQ1 dQ2 dQ3 dQ5 dQ6 dQ9 b0 dh0 dh1 dh2 dh3 dh5 dh6 dh9 a5 a1 a2 a9 a0 dhn
    subst dhR
    refine dwp_next (is := [0, 1, 2, 3, 4, 5, 6, 7, 8, 9, 10, 11, 12, 13]) rfl ?_
    refine allRdy_q rfl rfl (fun h0 h1 => ?_) ?_
    ·
     cases (show dB0 = false from h0)
     refine rn hA 1 ?_
     refine ow_ ?_
     exact ih (fun _ => rfl) dh1 dh2 dh3 dh5 dh6 dh9 a5 (fun _ => rfl) a2 a9 a0 (cnt_dec h0 (by show 0 < 14; decide) dhn)
    refine allRdy_q rfl rfl (fun h0 h1 => ?_) ?_
    ·
     cases (show dB1 = false from h0)
     obtain rfl : dB0 = true := h1.1
     obtain rfl := dh0 rfl
     refine rn hA 1 ?_
     refine ow_ ?_
     exact ih (fun _ => rfl) (fun _ => rfl) dh2 dh3 dh5 dh6 dh9 a5 (fun _ => rfl) a2 a9 a0 (cnt_dec h0 (by show 1 < 14; decide) dhn)
    refine allRdy_q rfl rfl (fun h0 h1 => ?_) ?_
    ·
     cases (show dB2 = false from h0)
     refine rn hA 1 ?_
     refine ow_ ?_
     exact ih dh0 dh1 (fun _ => rfl) dh3 dh5 dh6 dh9 a5 a1 (fun _ => rfl) a9 a0 (cnt_dec h0 (by show 2 < 14; decide) dhn)
    refine allRdy_q rfl rfl (fun h0 h1 => ?_) ?_
    ·
     cases (show dB3 = false from h0)
     obtain rfl : dB2 = true := h1.1
     obtain rfl := dh2 rfl
     refine rn hA 1 ?_
     refine ow_ ?_
     exact ih dh0 dh1 (fun _ => rfl) (fun _ => rfl) dh5 dh6 dh9 a5 a1 (fun _ => rfl) a9 a0 (cnt_dec h0 (by show 3 < 14; decide) dhn)
    refine allRdy_none rfl ?_
    refine allRdy_q rfl rfl (fun h0 h1 => ?_) ?_
    ·
     cases (show dB5 = false from h0)
     refine rn hA 1 ?_
     refine ow_ ?_
     exact ih dh0 dh1 dh2 dh3 (fun _ => rfl) dh6 dh9 a5 a1 a2 (fun _ => rfl) a0 (cnt_dec h0 (by show 5 < 14; decide) dhn)
    refine allRdy_q rfl rfl (fun h0 h1 => ?_) ?_
    ·
     cases (show dB6 = false from h0)
     obtain rfl : dB5 = true := h1.1
     obtain rfl := dh5 rfl
     refine rn hA 1 ?_
     refine ow_ ?_
     exact ih dh0 dh1 dh2 dh3 (fun _ => rfl) (fun _ => rfl) dh9 a5 a1 a2 (fun _ => rfl) a0 (cnt_dec h0 (by show 6 < 14; decide) dhn)
    refine allRdy_q rfl rfl (fun h0 h1 => ?_) ?_
    ·
     obtain rfl : dB6 = true := h1.2.1
     obtain rfl := dh6 rfl
     obtain rfl : dB5 = true := a9 rfl
     obtain rfl := dh5 rfl
     refine ops_step rfl rfl (app_own rfl rfl rfl rfl rfl rfl rfl rfl hr1 (by cbv) (by cbv) (by cbv) rfl (by
      show (List.length ([]) + List.length a8) * _ ≤ _
      simp only [List.length_nil, List.length_map, Nat.zero_add, *]
      omega) (by decide) (by decide)) ?_
     exact ops_done (dwp_to [] (by rfl) rfl (@b9 dn dB0 dB1 dB2 dB3 dB9 a7 ((kill 7 dQ0)) ((kill 7 dQ1)) ((kill 7 dQ2)) ((kill 7 dQ3)) ((kill 7 dQ9)) ((kill 7 b0)) (fun h => by rw [dh0 h]; rfl) (fun h => by rw [dh1 h]; rfl) (fun h => by rw [dh2 h]; rfl) (fun h => by rw [dh3 h]; rfl) (fun h => by rw [dh9 h]; rfl) (fun h => by rw [a5 h]; rfl) a1 a2 a0 (cnt_dec h0 (by show 7 < 14; decide) dhn)))
    refine allRdy_none rfl ?_
    refine allRdy_q rfl rfl (fun h0 h1 => ?_) ?_
    ·
     cases (show dB9 = false from h0)
     refine rn hA 1 ?_
     refine ow_ ?_
     exact ih dh0 dh1 dh2 dh3 dh5 dh6 (fun _ => rfl) a5 a1 a2 a9 (fun _ => rfl) (cnt_dec h0 (by show 9 < 14; decide) dhn)
    refine allRdy_q rfl rfl (fun h0 h1 => ?_) ?_
    ·
     cases (show a7 = false from h0)
     obtain rfl : dB9 = true := h1.1
     obtain rfl := dh9 rfl
     refine rn hA 1 ?_
     refine ow_ ?_
     exact ih dh0 dh1 dh2 dh3 dh5 dh6 (fun _ => rfl) (fun _ => rfl) a1 a2 a9 (fun _ => rfl) (cnt_dec h0 (by show 10 < 14; decide) dhn)
    refine allRdy_q rfl rfl (fun _ h1 => absurd (show false = true from h1.2.2.1) (by decide)) ?_
    refine allRdy_q rfl rfl (fun _ h1 => absurd (show false = true from h1.2.2.1) (by decide)) ?_
    refine allRdy_q rfl rfl (fun _ h1 => absurd (show false = true from h1.1) (by decide)) ?_
    exact trivial
  have H_4 : ∀ (dn : Nat) {dB0 dB1 dB2 dB3 dB5 dB6 dB9 a7 : Bool} {dQ0 dQ1 dQ2 dQ3 dQ5 dQ6 dQ9 b0 : PV}, (dB0 = true → dQ0 = .pt 1 0 0) → (dB1 = true → dQ1 = .ii a4) → (dB2 = true → dQ2 = .pt 1 0 1) → (dB3 = true → dQ3 = .str a6) → (dB5 = true → dQ5 = .pt 1 0 2) → (dB6 = true → dQ6 = .sl 1 a8) → (dB9 = true → dQ9 = .pt 1 0 3) → (a7 = true → b0 = .sl 1 a3) → (dB1 = true → dB0 = true) → (dB3 = true → dB2 = true) → (dB6 = true → dB5 = true) → (a7 = true → dB9 = true) → cntF [dB0, dB1, dB2, dB3, true, dB5, dB6, false, false, dB9, a7, false, false, false] = dn → dwp T ⟨Real Tryz.prog, RealM Tryz.prog, RealC Tryz.prog⟩ dR dK dn [dB0, dB1, dB2, dB3, true, dB5, dB6, false, false, dB9, a7, false, false, false] ({ sl := [.agg [.ii a4, .str a6, .sl 1 a8, .sl 1 a3], .pt 1 0 0, .pt 2 0 0, dQ0, dQ1, dQ2, dQ3, .own 7, dQ5, dQ6, .bad, .bad, dQ9, b0, .bad, .bad], bl := [(1, ⟨.var, 4, [[.ii a4, .str a6, .sl 1 a8, .sl 1 a3]]⟩), (2, ⟨.var, 4, [[.ii 0, .str ByteArray.empty, .zc, .zc]]⟩), (7, ⟨.arr, 1, []⟩)] } : St) := by
   intro dn
   induction dn with
   | zero =>
    intro dB0 dB1 dB2 dB3 dB5 dB6 dB9 a7 dQ0 dQ1 dQ2 dQ3 dQ5 dQ6 dQ9 b0 dh0 dh1 dh2 dh3 dh5 dh6 dh9 a5 a1 a2 a9 a0 dhn
    exact absurd (show false = true from cntF_zero  _ dhn 7 (by show 7 < 14; decide)) (by decide)
   | succ dn ih =>
    intro dB0 dB1 dB2 dB3 dB5 dB6 dB9 a7 dQ0 dQ1 dQ2 dQ3 dQ5 dQ6 dQ9 b0 dh0 dh1 dh2 dh3 dh5 dh6 dh9 a5 a1 a2 a9 a0 dhn
    subst dhR
    refine dwp_next (is := [0, 1, 2, 3, 4, 5, 6, 7, 8, 9, 10, 11, 12, 13]) rfl ?_
    refine allRdy_q rfl rfl (fun h0 h1 => ?_) ?_
    ·
     cases (show dB0 = false from h0)
     refine rn hA 1 ?_
     refine ow_ ?_
     exact ih (fun _ => rfl) dh1 dh2 dh3 dh5 dh6 dh9 a5 (fun _ => rfl) a2 a9 a0 (cnt_dec h0 (by show 0 < 14; decide) dhn)
    refine allRdy_q rfl rfl (fun h0 h1 => ?_) ?_
    ·
     cases (show dB1 = false from h0)
     obtain rfl : dB0 = true := h1.1
     obtain rfl := dh0 rfl
     refine rn hA 1 ?_
     refine ow_ ?_
     exact ih (fun _ => rfl) (fun _ => rfl) dh2 dh3 dh5 dh6 dh9 a5 (fun _ => rfl) a2 a9 a0 (cnt_dec h0 (by show 1 < 14; decide) dhn)
    refine allRdy_q rfl rfl (fun h0 h1 => ?_) ?_
    ·
     cases (show dB2 = false from h0)
     refine rn hA 1 ?_
     refine ow_ ?_
     exact ih dh0 dh1 (fun _ => rfl) dh3 dh5 dh6 dh9 a5 a1 (fun _ => rfl) a9 a0 (cnt_dec h0 (by show 2 < 14; decide) dhn)
    refine allRdy_q rfl rfl (fun h0 h1 => ?_) ?_
    ·
     cases (show dB3 = false from h0)
     obtain rfl : dB2 = true := h1.1
     obtain rfl := dh2 rfl
     refine rn hA 1 ?_
     refine ow_ ?_
     exact ih dh0 dh1 (fun _ => rfl) (fun _ => rfl) dh5 dh6 dh9 a5 a1 (fun _ => rfl) a9 a0 (cnt_dec h0 (by show 3 < 14; decide) dhn)
    refine allRdy_none rfl ?_
    refine allRdy_q rfl rfl (fun h0 h1 => ?_) ?_
    ·
     cases (show dB5 = false from h0)
     refine rn hA 1 ?_
     refine ow_ ?_
     exact ih dh0 dh1 dh2 dh3 (fun _ => rfl) dh6 dh9 a5 a1 a2 (fun _ => rfl) a0 (cnt_dec h0 (by show 5 < 14; decide) dhn)
    refine allRdy_q rfl rfl (fun h0 h1 => ?_) ?_
    ·
     cases (show dB6 = false from h0)
     obtain rfl : dB5 = true := h1.1
     obtain rfl := dh5 rfl
     refine rn hA 1 ?_
     refine ow_ ?_
     exact ih dh0 dh1 dh2 dh3 (fun _ => rfl) (fun _ => rfl) dh9 a5 a1 a2 (fun _ => rfl) a0 (cnt_dec h0 (by show 6 < 14; decide) dhn)
    refine allRdy_q rfl rfl (fun h0 h1 => ?_) ?_
    ·
     obtain rfl : dB6 = true := h1.2.1
     obtain rfl := dh6 rfl
     obtain rfl : dB5 = true := a9 rfl
     obtain rfl := dh5 rfl
     refine ops_step rfl rfl (app_own rfl rfl rfl rfl rfl rfl rfl rfl hr1 (by cbv) (by cbv) (by cbv) rfl (by
      show (List.length ([]) + List.length a8) * _ ≤ _
      simp only [List.length_nil, List.length_map, Nat.zero_add, *]
      omega) (by decide) (by decide)) ?_
     exact ops_done (dwp_to [] (by rfl) rfl (@c4 dn dB0 dB1 dB2 dB3 dB9 a7 ((kill 7 dQ0)) ((kill 7 dQ1)) ((kill 7 dQ2)) ((kill 7 dQ3)) ((kill 7 dQ9)) ((kill 7 b0)) (fun h => by rw [dh0 h]; rfl) (fun h => by rw [dh1 h]; rfl) (fun h => by rw [dh2 h]; rfl) (fun h => by rw [dh3 h]; rfl) (fun h => by rw [dh9 h]; rfl) (fun h => by rw [a5 h]; rfl) a1 a2 a0 (cnt_dec h0 (by show 7 < 14; decide) dhn)))
    refine allRdy_q rfl rfl (fun h0 h1 => ?_) ?_
    ·
     refine rn hA 1 ?_
     refine ops_done (dwp_to [.up 11, .up 7, .up 2, .up 1] (by cbv) rfl ?_)
     exact c3 dn dh0 dh1 dh2 dh3 dh5 dh6 dh9 a5 a1 a2 a9 a0 (cnt_dec h0 (by show 8 < 14; decide) dhn)
    refine allRdy_q rfl rfl (fun h0 h1 => ?_) ?_
    ·
     cases (show dB9 = false from h0)
     refine rn hA 1 ?_
     refine ow_ ?_
     exact ih dh0 dh1 dh2 dh3 dh5 dh6 (fun _ => rfl) a5 a1 a2 a9 (fun _ => rfl) (cnt_dec h0 (by show 9 < 14; decide) dhn)
    refine allRdy_q rfl rfl (fun h0 h1 => ?_) ?_
    ·
     cases (show a7 = false from h0)
     obtain rfl : dB9 = true := h1.1
     obtain rfl := dh9 rfl
     refine rn hA 1 ?_
     refine ow_ ?_
     exact ih dh0 dh1 dh2 dh3 dh5 dh6 (fun _ => rfl) (fun _ => rfl) a1 a2 a9 (fun _ => rfl) (cnt_dec h0 (by show 10 < 14; decide) dhn)
    refine allRdy_q rfl rfl (fun _ h1 => absurd (show false = true from h1.1) (by decide)) ?_
    refine allRdy_q rfl rfl (fun _ h1 => absurd (show false = true from h1.2.2.1) (by decide)) ?_
    refine allRdy_q rfl rfl (fun _ h1 => absurd (show false = true from h1.1) (by decide)) ?_
    exact trivial
  have H_8 : ∀ (dn : Nat) {dB0 dB1 dB2 dB3 dB5 dB6 dB9 a7 : Bool} {dQ0 dQ1 dQ2 dQ3 dQ5 dQ6 dQ9 b0 : PV}, (dB0 = true → dQ0 = .pt 1 0 0) → (dB1 = true → dQ1 = .ii a4) → (dB2 = true → dQ2 = .pt 1 0 1) → (dB3 = true → dQ3 = .str a6) → (dB5 = true → dQ5 = .pt 1 0 2) → (dB6 = true → dQ6 = .sl 1 a8) → (dB9 = true → dQ9 = .pt 1 0 3) → (a7 = true → b0 = .sl 1 a3) → (dB1 = true → dB0 = true) → (dB3 = true → dB2 = true) → (dB6 = true → dB5 = true) → (a7 = true → dB9 = true) → cntF [dB0, dB1, dB2, dB3, false, dB5, dB6, false, true, dB9, a7, false, false, false] = dn → dwp T ⟨Real Tryz.prog, RealM Tryz.prog, RealC Tryz.prog⟩ dR dK dn [dB0, dB1, dB2, dB3, false, dB5, dB6, false, true, dB9, a7, false, false, false] ({ sl := [.agg [.ii a4, .str a6, .sl 1 a8, .sl 1 a3], .pt 1 0 0, .pt 2 0 0, dQ0, dQ1, dQ2, dQ3, .bad, dQ5, dQ6, .bad, .own 11, dQ9, b0, .bad, .bad], bl := [(1, ⟨.var, 4, [[.ii a4, .str a6, .sl 1 a8, .sl 1 a3]]⟩), (2, ⟨.var, 4, [[.ii 0, .str ByteArray.empty, .zc, .zc]]⟩), (11, ⟨.arr, 1, []⟩)] } : St) := by
   intro dn
   induction dn with
   | zero =>
    intro dB0 dB1 dB2 dB3 dB5 dB6 dB9 a7 dQ0 dQ1 dQ2 dQ3 dQ5 dQ6 dQ9 b0 dh0 dh1 dh2 dh3 dh5 dh6 dh9 a5 a1 a2 a9 a0 dhn
    exact absurd (show false = true from cntF_zero  _ dhn 4 (by show 4 < 14; decide)) (by decide)
   | succ dn ih =>
    intro dB0 dB1 dB2 dB3 dB5 dB6 dB9 a7 dQ0 dQ1 dQ2 dQ3 dQ5 dQ6 dQ9 b0 dh0 dh1 dh2 dh3 dh5 dh6 dh9 a5 a1 a2 a9 a0 dhn
    subst dhR
    refine dwp_next (is := [0, 1, 2, 3, 4, 5, 6, 7, 8, 9, 10, 11, 12, 13]) rfl ?_
    refine allRdy_q rfl rfl (fun h0 h1 => ?_) ?_
    ·
     cases (show dB0 = false from h0)
     refine rn hA 1 ?_
     refine ow_ ?_
     exact ih (fun _ => rfl) dh1 dh2 dh3 dh5 dh6 dh9 a5 (fun _ => rfl) a2 a9 a0 (cnt_dec h0 (by show 0 < 14; decide) dhn)
    refine allRdy_q rfl rfl (fun h0 h1 => ?_) ?_
    ·
     cases (show dB1 = false from h0)
     obtain rfl : dB0 = true := h1.1
     obtain rfl := dh0 rfl
     refine rn hA 1 ?_
     refine ow_ ?_
     exact ih (fun _ => rfl) (fun _ => rfl) dh2 dh3 dh5 dh6 dh9 a5 (fun _ => rfl) a2 a9 a0 (cnt_dec h0 (by show 1 < 14; decide) dhn)
    refine allRdy_q rfl rfl (fun h0 h1 => ?_) ?_
    ·
     cases (show dB2 = false from h0)
     refine rn hA 1 ?_
     refine ow_ ?_
     exact ih dh0 dh1 (fun _ => rfl) dh3 dh5 dh6 dh9 a5 a1 (fun _ => rfl) a9 a0 (cnt_dec h0 (by show 2 < 14; decide) dhn)
    refine allRdy_q rfl rfl (fun h0 h1 => ?_) ?_
    ·
     cases (show dB3 = false from h0)
     obtain rfl : dB2 = true := h1.1
     obtain rfl := dh2 rfl
     refine rn hA 1 ?_
     refine ow_ ?_
     exact ih dh0 dh1 (fun _ => rfl) (fun _ => rfl) dh5 dh6 dh9 a5 a1 (fun _ => rfl) a9 a0 (cnt_dec h0 (by show 3 < 14; decide) dhn)
    refine allRdy_q rfl rfl (fun h0 h1 => ?_) ?_
    ·
     refine rn hA 1 ?_
     refine ops_done (dwp_to [.up 11, .up 7, .up 2, .up 1] (by cbv) rfl ?_)
     exact c3 dn dh0 dh1 dh2 dh3 dh5 dh6 dh9 a5 a1 a2 a9 a0 (cnt_dec h0 (by show 4 < 14; decide) dhn)
    refine allRdy_q rfl rfl (fun h0 h1 => ?_) ?_
    ·
     cases (show dB5 = false from h0)
     refine rn hA 1 ?_
     refine ow_ ?_
     exact ih dh0 dh1 dh2 dh3 (fun _ => rfl) dh6 dh9 a5 a1 a2 (fun _ => rfl) a0 (cnt_dec h0 (by show 5 < 14; decide) dhn)
    refine allRdy_q rfl rfl (fun h0 h1 => ?_) ?_
    ·
     cases (show dB6 = false from h0)
     obtain rfl : dB5 = true := h1.1
     obtain rfl := dh5 rfl
     refine rn hA 1 ?_
     refine ow_ ?_
     exact ih dh0 dh1 dh2 dh3 (fun _ => rfl) (fun _ => rfl) dh9 a5 a1 a2 (fun _ => rfl) a0 (cnt_dec h0 (by show 6 < 14; decide) dhn)
    refine allRdy_q rfl rfl (fun _ h1 => absurd (show false = true from h1.1) (by decide)) ?_
    refine allRdy_none rfl ?_
    refine allRdy_q rfl rfl (fun h0 h1 => ?_) ?_
    ·
     cases (show dB9 = false from h0)
     refine rn hA 1 ?_
     refine ow_ ?_
     exact ih dh0 dh1 dh2 dh3 dh5 dh6 (fun _ => rfl) a5 a1 a2 a9 (fun _ => rfl) (cnt_dec h0 (by show 9 < 14; decide) dhn)
    refine allRdy_q rfl rfl (fun h0 h1 => ?_) ?_
    ·
     cases (show a7 = false from h0)
     obtain rfl : dB9 = true := h1.1
     obtain rfl := dh9 rfl
     refine rn hA 1 ?_
     refine ow_ ?_
     exact ih dh0 dh1 dh2 dh3 dh5 dh6 (fun _ => rfl) (fun _ => rfl) a1 a2 a9 (fun _ => rfl) (cnt_dec h0 (by show 10 < 14; decide) dhn)
    refine allRdy_q rfl rfl (fun _ h1 => absurd (show false = true from h1.2.2.1) (by decide)) ?_
    refine allRdy_q rfl rfl (fun _ h1 => absurd (show false = true from h1.2.2.1) (by decide)) ?_
    refine allRdy_q rfl rfl (fun _ h1 => absurd (show false = true from h1.1) (by decide)) ?_
    exact trivial
  have H_ : ∀ (dn : Nat) {dB0 dB1 dB2 dB3 dB5 dB6 dB9 a7 : Bool} {dQ0 dQ1 dQ2 dQ3 dQ5 dQ6 dQ9 b0 : PV}, (dB0 = true → dQ0 = .pt 1 0 0) → (dB1 = true → dQ1 = .ii a4) → (dB2 = true → dQ2 = .pt 1 0 1) → (dB3 = true → dQ3 = .str a6) → (dB5 = true → dQ5 = .pt 1 0 2) → (dB6 = true → dQ6 = .sl 1 a8) → (dB9 = true → dQ9 = .pt 1 0 3) → (a7 = true → b0 = .sl 1 a3) → (dB1 = true → dB0 = true) → (dB3 = true → dB2 = true) → (dB6 = true → dB5 = true) → (a7 = true → dB9 = true) → cntF [dB0, dB1, dB2, dB3, false, dB5, dB6, false, false, dB9, a7, false, false, false] = dn → dwp T ⟨Real Tryz.prog, RealM Tryz.prog, RealC Tryz.prog⟩ dR dK dn [dB0, dB1, dB2, dB3, false, dB5, dB6, false, false, dB9, a7, false, false, false] ({ sl := [.agg [.ii a4, .str a6, .sl 1 a8, .sl 1 a3], .pt 1 0 0, .pt 2 0 0, dQ0, dQ1, dQ2, dQ3, .bad, dQ5, dQ6, .bad, .bad, dQ9, b0, .bad, .bad], bl := [(1, ⟨.var, 4, [[.ii a4, .str a6, .sl 1 a8, .sl 1 a3]]⟩), (2, ⟨.var, 4, [[.ii 0, .str ByteArray.empty, .zc, .zc]]⟩)] } : St) := by
   intro dn
   induction dn with
   | zero =>
    intro dB0 dB1 dB2 dB3 dB5 dB6 dB9 a7 dQ0 dQ1 dQ2 dQ3 dQ5 dQ6 dQ9 b0 dh0 dh1 dh2 dh3 dh5 dh6 dh9 a5 a1 a2 a9 a0 dhn
    exact absurd (show false = true from cntF_zero  _ dhn 4 (by show 4 < 14; decide)) (by decide)
   | succ dn ih =>
    intro dB0 dB1 dB2 dB3 dB5 dB6 dB9 a7 dQ0 dQ1 dQ2 dQ3 dQ5 dQ6 dQ9 b0 dh0 dh1 dh2 dh3 dh5 dh6 dh9 a5 a1 a2 a9 a0 dhn
    subst dhR
    refine dwp_next (is := [0, 1, 2, 3, 4, 5, 6, 7, 8, 9, 10, 11, 12, 13]) rfl ?_
    refine allRdy_q rfl rfl (fun h0 h1 => ?_) ?_
    ·
     cases (show dB0 = false from h0)
     refine rn hA 1 ?_
     refine ow_ ?_
     exact ih (fun _ => rfl) dh1 dh2 dh3 dh5 dh6 dh9 a5 (fun _ => rfl) a2 a9 a0 (cnt_dec h0 (by show 0 < 14; decide) dhn)
    refine allRdy_q rfl rfl (fun h0 h1 => ?_) ?_
    ·
     cases (show dB1 = false from h0)
     obtain rfl : dB0 = true := h1.1
     obtain rfl := dh0 rfl
     refine rn hA 1 ?_
     refine ow_ ?_
     exact ih (fun _ => rfl) (fun _ => rfl) dh2 dh3 dh5 dh6 dh9 a5 (fun _ => rfl) a2 a9 a0 (cnt_dec h0 (by show 1 < 14; decide) dhn)
    refine allRdy_q rfl rfl (fun h0 h1 => ?_) ?_
    ·
     cases (show dB2 = false from h0)
     refine rn hA 1 ?_
     refine ow_ ?_
     exact ih dh0 dh1 (fun _ => rfl) dh3 dh5 dh6 dh9 a5 a1 (fun _ => rfl) a9 a0 (cnt_dec h0 (by show 2 < 14; decide) dhn)
    refine allRdy_q rfl rfl (fun h0 h1 => ?_) ?_
    ·
     cases (show dB3 = false from h0)
     obtain rfl : dB2 = true := h1.1
     obtain rfl := dh2 rfl
     refine rn hA 1 ?_
     refine ow_ ?_
     exact ih dh0 dh1 (fun _ => rfl) (fun _ => rfl) dh5 dh6 dh9 a5 a1 (fun _ => rfl) a9 a0 (cnt_dec h0 (by show 3 < 14; decide) dhn)
    refine allRdy_q rfl rfl (fun h0 h1 => ?_) ?_
    ·
     refine rn hA 1 ?_
     refine ops_done (dwp_to [.up 7, .up 2, .up 1] (by cbv) rfl ?_)
     exact H_4 dn dh0 dh1 dh2 dh3 dh5 dh6 dh9 a5 a1 a2 a9 a0 (cnt_dec h0 (by show 4 < 14; decide) dhn)
    refine allRdy_q rfl rfl (fun h0 h1 => ?_) ?_
    ·
     cases (show dB5 = false from h0)
     refine rn hA 1 ?_
     refine ow_ ?_
     exact ih dh0 dh1 dh2 dh3 (fun _ => rfl) dh6 dh9 a5 a1 a2 (fun _ => rfl) a0 (cnt_dec h0 (by show 5 < 14; decide) dhn)
    refine allRdy_q rfl rfl (fun h0 h1 => ?_) ?_
    ·
     cases (show dB6 = false from h0)
     obtain rfl : dB5 = true := h1.1
     obtain rfl := dh5 rfl
     refine rn hA 1 ?_
     refine ow_ ?_
     exact ih dh0 dh1 dh2 dh3 (fun _ => rfl) (fun _ => rfl) dh9 a5 a1 a2 (fun _ => rfl) a0 (cnt_dec h0 (by show 6 < 14; decide) dhn)
    refine allRdy_q rfl rfl (fun _ h1 => absurd (show false = true from h1.1) (by decide)) ?_
    refine allRdy_q rfl rfl (fun h0 h1 => ?_) ?_
    ·
     refine rn hA 1 ?_
     refine ops_done (dwp_to [.up 11, .up 2, .up 1] (by cbv) rfl ?_)
     exact H_8 dn dh0 dh1 dh2 dh3 dh5 dh6 dh9 a5 a1 a2 a9 a0 (cnt_dec h0 (by show 8 < 14; decide) dhn)
    refine allRdy_q rfl rfl (fun h0 h1 => ?_) ?_
    ·
     cases (show dB9 = false from h0)
     refine rn hA 1 ?_
     refine ow_ ?_
     exact ih dh0 dh1 dh2 dh3 dh5 dh6 (fun _ => rfl) a5 a1 a2 a9 (fun _ => rfl) (cnt_dec h0 (by show 9 < 14; decide) dhn)
    refine allRdy_q rfl rfl (fun h0 h1 => ?_) ?_
    ·
     cases (show a7 = false from h0)
     obtain rfl : dB9 = true := h1.1
     obtain rfl := dh9 rfl
     refine rn hA 1 ?_
     refine ow_ ?_
     exact ih dh0 dh1 dh2 dh3 dh5 dh6 (fun _ => rfl) (fun _ => rfl) a1 a2 a9 (fun _ => rfl) (cnt_dec h0 (by show 10 < 14; decide) dhn)
    refine allRdy_q rfl rfl (fun _ h1 => absurd (show false = true from h1.1) (by decide)) ?_
    refine allRdy_q rfl rfl (fun _ h1 => absurd (show false = true from h1.2.2.1) (by decide)) ?_
    refine allRdy_q rfl rfl (fun _ h1 => absurd (show false = true from h1.1) (by decide)) ?_
    exact trivial
  exact dwp_to [.up 2, .up 1] (by cbv) rfl (@H_ 14 false false false false false false false false (.bad) (.bad) (.bad) (.bad) (.bad) (.bad) (.bad) (.bad) (fun h => absurd h (by decide)) (fun h => absurd h (by decide)) (fun h => absurd h (by decide)) (fun h => absurd h (by decide)) (fun h => absurd h (by decide)) (fun h => absurd h (by decide)) (fun h => absurd h (by decide)) (fun h => absurd h (by decide)) (fun h => absurd h (by decide)) (fun h => absurd h (by decide)) (fun h => absurd h (by decide)) (fun h => absurd h (by decide)) rfl)
 refine go_ret ⟨_, by cbv, ?_⟩
 show _ = (PV.agg [.ii a4, .str a6, .ow 1 r1, .ow 1 r2])
 simp only [er1, er2, List.nil_append]
 rfl
end Go.Av

/- Walks: calls and records that are right. -/
import Derived.Test.YtjbokkoiicoahaaB1
namespace Go.Av
open Go Go.Proofs
set_option maxRecDepth 100000
set_option maxHeartbeats 4000000
set_option linter.unusedVariables false
set_option linter.unusedSimpArgs false
def okU (u : ByteArray) : Bool := wordOk u && wordOk inboxT
def recB (nv : Int) (u : ByteArray) : Bool := inR nv 1 9999 && (wordOk u && wordOk inboxT)
def recM (nv : Int) (u : ByteArray) : GRec := ⟨1, nv, 0, 1, 0, u, inboxT, ByteArray.empty⟩
def nBox (nv : Int) (u : ByteArray) : GBox := ⟨nv, u, inboxT, 1, []⟩
def fitB (xs : List GBox) (nv : Int) (u : ByteArray) : Bool := recB nv u && (!hasB xs u inboxT && decide (((namesB xs u).length : Int) < 3))
def modB (xs : List GBox) (nv : Int) (u : ByteArray) : Bool := okU u && fitB xs nv u
theorem r_impl_CallOk (A : Alg) (hA : A = std)  (u : ByteArray) (zu : (ByteArray.size u : Int) ≤ 4611686018427387904) : Real Try.prog 138 [.agg [.int .i64 1, .str u, .str (ByteArray.mk #[105, 110, 98, 111, 120]), .str ByteArray.empty, .int .i64 0, .zc, .int .i64 0, .str ByteArray.empty]] (.bool (okU u)) := by
 refine real_args (args' := [.agg [.int .i64 1, .str u, .str (ByteArray.mk #[105, 110, 98, 111, 120]), .str ByteArray.empty, .int .i64 0, .zc, .int .i64 0, .str ByteArray.empty]]) (by rfl) ?_
 have zi : (ByteArray.size (ByteArray.mk #[105, 110, 98, 111, 120]) : Int) ≤ 4611686018427387904 := by decide
 refine real tyOk Try.func138 (by kernel_rfl) (afun_of rfl ?_)
 refine gs (gr (ra hA 2 (by cbv) (od ?_)))
 refine gs (gs (gr (ra hA 2 (by cbv) ?_)))
 obtain ⟨j6, l4, hc2⟩ : ∃ (j6 : Bool), j6 = (wordOk u) ∧ Real Try.prog 102 [.str u] (.bool j6) := ⟨_, rfl, by exact r_impl_WordOk A hA u (by first | assumption | omega)⟩
 refine ops_callV rfl rfl (by cbv) (by cbv) hc2 (.inr rfl) (by cbv) ?_
 refine ra hA 2 (by cbv) ?_
 refine ops_split 15 rfl (fun c3 => ?_) (fun c3 => ?_)
 ·
  have c4 : j6 = false := bnot_t hA c3
  refine ra hA 5 (by cbv) (od ?_)
  refine go_cond rfl (fun c5 => ?_) (fun c5 => ?_)
  ·
   refine gs (gr (ra hA 1 (by cbv) (od ?_)))
   refine go_ret ⟨_, by cbv, ?_⟩
   show _ = (PV.bool false)
   refine congrArg PV.bool ?_
   subst l4
   subst hA
   simp [okU, inboxT, std, pvEqL, pvEq, (show ByteArray.empty = ByteArray.mk #[] from rfl), c4]
  ·
   exact no_f c5 (show true = true from by rfl)
 ·
  have c6 : j6 = true := bnot_f hA c3
  refine ra hA 2 (by cbv) ?_
  obtain ⟨j2, m0, hc8⟩ : ∃ (j2 : Bool), j2 = (wordOk (ByteArray.mk #[105, 110, 98, 111, 120])) ∧ Real Try.prog 102 [.str (ByteArray.mk #[105, 110, 98, 111, 120])] (.bool j2) := ⟨_, rfl, by exact r_impl_WordOk A hA (ByteArray.mk #[105, 110, 98, 111, 120]) (by first | assumption | omega)⟩
  refine ops_callG rfl rfl rfl rfl (by cbv) (by cbv) hc8 (.inr rfl) (by cbv) ?_
  refine ra hA 2 (by cbv) (od ?_)
  refine go_cond rfl (fun c9 => ?_) (fun c9 => ?_)
  ·
   have c10 : j2 = false := bnot_t hA c9
   refine gs (gr (ra hA 1 (by cbv) (od ?_)))
   refine go_ret ⟨_, by cbv, ?_⟩
   show _ = (PV.bool false)
   refine congrArg PV.bool ?_
   subst m0 l4
   subst hA
   simp [okU, inboxT, std, pvEqL, pvEq, (show ByteArray.empty = ByteArray.mk #[] from rfl), c6, c10]
  ·
   have c11 : j2 = true := bnot_f hA c9
   refine gk (gs (gr (ra hA 1 (by cbv) (od ?_))))
   refine gs ?_
   refine go_drawE [0, 1, 3, 4, 6, 7, 9, 10, 12, 13, 2, 5, 8, 11, 14] (by cbv) rfl rfl ({ sl := [.agg [.int .i64 1, .str u, .str (ByteArray.mk #[105, 110, 98, 111, 120]), .str ByteArray.empty, .int .i64 0, .zc, .int .i64 0, .str ByteArray.empty], .pt 1 0 0, .bool false, .bool true, .int .i64 0, .str ByteArray.empty, .zc, .int .i64 0, .str ByteArray.empty, .bad, .bad, .pt 1 0 1, .str u, .bool j6, .bool (A.bnot j6), .bool false, .pt 1 0 2, .str (ByteArray.mk #[105, 110, 98, 111, 120]), .bool j2, .bool (A.bnot j2), .bool (A.bnot j2), .pt 1 0 4, .int .i64 0, .pt 1 0 3, .str ByteArray.empty, .pt 1 0 5, .zc, .pt 1 0 6, .int .i64 0, .pt 1 0 7, .str ByteArray.empty, .bad, .bad, .bad, .bad, .bad, .bad, .bad, .bad, .bad, .bad, .bad, .bad, .bad, .bad, .bad, .bad, .bad, .bad, .bad, .bad, .bad, .bad, .bad, .bad, .bad, .bad, .bad, .bad, .bad, .bad, .bad, .bad, .bad, .bad, .bad, .bad, .bad, .bad, .bad, .bad, .bad, .bad, .bad, .bad, .bad, .bad, .bad, .bad, .bad, .bad, .bad, .bad, .bad, .bad, .bad, .bad, .bad, .bad, .bad, .bad, .bad, .bad, .bad, .bad, .bad, .bad, .bad, .bad, .bad, .bad, .bad, .bad, .bad, .bad, .bad, .bad, .bad, .bad, .bad, .bad, .bad, .bad, .bad], bl := [(1, ⟨.var, 8, [[.int .i64 1, .str u, .str (ByteArray.mk #[105, 110, 98, 111, 120]), .str ByteArray.empty, .int .i64 0, .zc, .int .i64 0, .str ByteArray.empty]]⟩)] } : St) (fun dR dK dhR dhF => ?_) ?_
   ·
    have H_ : ∀ (dn : Nat) (dB0 : Bool) (dB1 : Bool) (dB2 : Bool) (dB3 : Bool) (dB4 : Bool) (dB5 : Bool) (dB6 : Bool) (dB7 : Bool) (dB8 : Bool) (dB9 : Bool) (a6 : Bool) (a4 : Bool) (a3 : Bool) (a2 : Bool) (a1 : Bool) (dQ0 : PV) (dQ1 : PV) (dQ2 : PV) (dQ3 : PV) (dQ4 : PV) (dQ5 : PV) (dQ6 : PV) (dQ7 : PV) (dQ8 : PV) (dQ9 : PV) (i8 : PV) (i6 : PV) (g4 : PV) (g1 : PV) (e8 : PV), (dB0 = true → dQ0 = .pt 1 0 4) → (dB1 = true → dQ1 = .int .i64 0) → (dB2 = true → dQ2 = .pt 1 0 3) → (dB3 = true → dQ3 = .str ByteArray.empty) → (dB4 = true → dQ4 = .pt 1 0 5) → (dB5 = true → dQ5 = .zc) → (dB6 = true → dQ6 = .pt 1 0 6) → (dB7 = true → dQ7 = .int .i64 0) → (dB8 = true → dQ8 = .pt 1 0 7) → (dB9 = true → dQ9 = .str ByteArray.empty) → (a6 = true → i8 = .int .i64 0) → (a4 = true → i6 = .str ByteArray.empty) → (a3 = true → g4 = .zc) → (a2 = true → g1 = .int .i64 0) → (a1 = true → e8 = .str ByteArray.empty) → (dB1 = true → dB0 = true) → (dB3 = true → dB2 = true) → (dB5 = true → dB4 = true) → (dB7 = true → dB6 = true) → (dB9 = true → dB8 = true) → (a6 = true → dB1 = true) → (a6 = true → dB0 = true) → (a4 = true → dB3 = true) → (a4 = true → a6 = true) → (a4 = true → dB0 = true) → (a4 = true → dB1 = true) → (a4 = true → dB2 = true) → (a3 = true → dB5 = true) → (a3 = true → a4 = true) → (a3 = true → dB0 = true) → (a3 = true → dB1 = true) → (a3 = true → dB2 = true) → (a3 = true → dB3 = true) → (a3 = true → dB4 = true) → (a3 = true → a6 = true) → (a2 = true → dB7 = true) → (a2 = true → a3 = true) → (a2 = true → dB0 = true) → (a2 = true → dB1 = true) → (a2 = true → dB2 = true) → (a2 = true → dB3 = true) → (a2 = true → dB4 = true) → (a2 = true → dB5 = true) → (a2 = true → dB6 = true) → (a2 = true → a6 = true) → (a2 = true → a4 = true) → (a1 = true → dB9 = true) → (a1 = true → a2 = true) → (a1 = true → dB0 = true) → (a1 = true → dB1 = true) → (a1 = true → dB2 = true) → (a1 = true → dB3 = true) → (a1 = true → dB4 = true) → (a1 = true → dB5 = true) → (a1 = true → dB6 = true) → (a1 = true → dB7 = true) → (a1 = true → dB8 = true) → (a1 = true → a6 = true) → (a1 = true → a4 = true) → (a1 = true → a3 = true) → cntF [dB0, dB1, dB2, dB3, dB4, dB5, dB6, dB7, dB8, dB9, a6, a4, a3, a2, a1] = dn → dwp T ⟨Real Try.prog, RealM Try.prog, RealC Try.prog⟩ dR dK dn [dB0, dB1, dB2, dB3, dB4, dB5, dB6, dB7, dB8, dB9, a6, a4, a3, a2, a1] ({ sl := [.agg [.int .i64 1, .str u, .str (ByteArray.mk #[105, 110, 98, 111, 120]), .str ByteArray.empty, .int .i64 0, .zc, .int .i64 0, .str ByteArray.empty], .pt 1 0 0, .bool false, .bool true, i8, i6, g4, g1, e8, .bad, .bad, .pt 1 0 1, .str u, .bool j6, .bool (A.bnot j6), .bool false, .pt 1 0 2, .str (ByteArray.mk #[105, 110, 98, 111, 120]), .bool j2, .bool (A.bnot j2), .bool (A.bnot j2), dQ0, dQ1, dQ2, dQ3, dQ4, dQ5, dQ6, dQ7, dQ8, dQ9, .bad, .bad, .bad, .bad, .bad, .bad, .bad, .bad, .bad, .bad, .bad, .bad, .bad, .bad, .bad, .bad, .bad, .bad, .bad, .bad, .bad, .bad, .bad, .bad, .bad, .bad, .bad, .bad, .bad, .bad, .bad, .bad, .bad, .bad, .bad, .bad, .bad, .bad, .bad, .bad, .bad, .bad, .bad, .bad, .bad, .bad, .bad, .bad, .bad, .bad, .bad, .bad, .bad, .bad, .bad, .bad, .bad, .bad, .bad, .bad, .bad, .bad, .bad, .bad, .bad, .bad, .bad, .bad, .bad, .bad, .bad, .bad, .bad, .bad, .bad, .bad, .bad, .bad, .bad, .bad, .bad, .bad, .bad], bl := [(1, ⟨.var, 8, [[.int .i64 1, .str u, .str (ByteArray.mk #[105, 110, 98, 111, 120]), .str ByteArray.empty, .int .i64 0, .zc, .int .i64 0, .str ByteArray.empty]]⟩)] } : St) := by
     intro dn
     induction dn with
     | zero =>
      intro dB0 dB1 dB2 dB3 dB4 dB5 dB6 dB7 dB8 dB9 a6 a4 a3 a2 a1 dQ0 dQ1 dQ2 dQ3 dQ4 dQ5 dQ6 dQ7 dQ8 dQ9 i8 i6 g4 g1 e8 dh0 dh1 dh2 dh3 dh4 dh5 dh6 dh7 dh8 dh9 g7 g6 g2 g3 g5 f3 f0 e9 f2 f1 c2 j5 c0 b0 j1 i4 i5 d0 a7 j3 i1 g9 g0 f5 d4 c1 a9 j4 g8 i0 f9 f8 e6 e7 d6 b9 d1 a8 i7 i2 i3 f4 f7 e5 e3 d2 d3 d8 b8 b4 dhn
      have y0 : dB0 = true := cntF_zero  _ dhn 0 (by show 0 < 15; decide)
      subst y0
      have y0 := dh0 rfl
      subst y0
      have y1 : dB1 = true := cntF_zero  _ dhn 1 (by show 1 < 15; decide)
      subst y1
      have y1 := dh1 rfl
      subst y1
      have y2 : dB2 = true := cntF_zero  _ dhn 2 (by show 2 < 15; decide)
      subst y2
      have y2 := dh2 rfl
      subst y2
      have y3 : dB3 = true := cntF_zero  _ dhn 3 (by show 3 < 15; decide)
      subst y3
      have y3 := dh3 rfl
      subst y3
      have y4 : dB4 = true := cntF_zero  _ dhn 4 (by show 4 < 15; decide)
      subst y4
      have y4 := dh4 rfl
      subst y4
      have y5 : dB5 = true := cntF_zero  _ dhn 5 (by show 5 < 15; decide)
      subst y5
      have y5 := dh5 rfl
      subst y5
      have y6 : dB6 = true := cntF_zero  _ dhn 6 (by show 6 < 15; decide)
      subst y6
      have y6 := dh6 rfl
      subst y6
      have y7 : dB7 = true := cntF_zero  _ dhn 7 (by show 7 < 15; decide)
      subst y7
      have y7 := dh7 rfl
      subst y7
      have y8 : dB8 = true := cntF_zero  _ dhn 8 (by show 8 < 15; decide)
      subst y8
      have y8 := dh8 rfl
      subst y8
      have y9 : dB9 = true := cntF_zero  _ dhn 9 (by show 9 < 15; decide)
      subst y9
      have y9 := dh9 rfl
      subst y9
      have y10 : a6 = true := cntF_zero  _ dhn 10 (by show 10 < 15; decide)
      subst y10
      have y10 := g7 rfl
      subst y10
      have y11 : a4 = true := cntF_zero  _ dhn 11 (by show 11 < 15; decide)
      subst y11
      have y11 := g6 rfl
      subst y11
      have y12 : a3 = true := cntF_zero  _ dhn 12 (by show 12 < 15; decide)
      subst y12
      have y12 := g2 rfl
      subst y12
      have y13 : a2 = true := cntF_zero  _ dhn 13 (by show 13 < 15; decide)
      subst y13
      have y13 := g3 rfl
      subst y13
      have y14 : a1 = true := cntF_zero  _ dhn 14 (by show 14 < 15; decide)
      subst y14
      have y14 := g5 rfl
      subst y14
      exact dwp_last dhF
     | succ dn ih =>
      intro dB0 dB1 dB2 dB3 dB4 dB5 dB6 dB7 dB8 dB9 a6 a4 a3 a2 a1 dQ0 dQ1 dQ2 dQ3 dQ4 dQ5 dQ6 dQ7 dQ8 dQ9 i8 i6 g4 g1 e8 dh0 dh1 dh2 dh3 dh4 dh5 dh6 dh7 dh8 dh9 g7 g6 g2 g3 g5 f3 f0 e9 f2 f1 c2 j5 c0 b0 j1 i4 i5 d0 a7 j3 i1 g9 g0 f5 d4 c1 a9 j4 g8 i0 f9 f8 e6 e7 d6 b9 d1 a8 i7 i2 i3 f4 f7 e5 e3 d2 d3 d8 b8 b4 dhn
      subst dhR
      refine dwp_next (is := [0, 1, 2, 3, 4, 5, 6, 7, 8, 9, 10, 11, 12, 13, 14]) rfl ?_
      refine allRdy_q rfl rfl (fun h0 h1 => ?_) ?_
      ·
       cases (show dB0 = false from h0)
       refine ra hA 1 (by cbv) ?_
       exact ops_done (dwp_to [] (by cbv) rfl (ih true dB1 dB2 dB3 dB4 dB5 dB6 dB7 dB8 dB9 a6 a4 a3 a2 a1 (.pt 1 0 4) (dQ1) (dQ2) (dQ3) (dQ4) (dQ5) (dQ6) (dQ7) (dQ8) (dQ9) (i8) (i6) (g4) (g1) (e8) (fun _ => rfl) dh1 dh2 dh3 dh4 dh5 dh6 dh7 dh8 dh9 g7 g6 g2 g3 g5 (fun _ => rfl) f0 e9 f2 f1 c2 (fun _ => rfl) c0 b0 (fun _ => rfl) i4 i5 d0 a7 (fun _ => rfl) i1 g9 g0 f5 d4 c1 a9 (fun _ => rfl) g8 i0 f9 f8 e6 e7 d6 b9 d1 a8 (fun _ => rfl) i2 i3 f4 f7 e5 e3 d2 d3 d8 b8 b4 (cnt_dec h0 (by show 0 < 15; decide) dhn)))
      refine allRdy_q rfl rfl (fun h0 h1 => ?_) ?_
      ·
       cases (show dB1 = false from h0)
       obtain rfl : dB0 = true := h1.1
       obtain rfl := dh0 rfl
       refine ra hA 1 (by cbv) ?_
       exact ops_done (dwp_to [] (by cbv) rfl (ih true true dB2 dB3 dB4 dB5 dB6 dB7 dB8 dB9 a6 a4 a3 a2 a1 (.pt 1 0 4) (.int .i64 0) (dQ2) (dQ3) (dQ4) (dQ5) (dQ6) (dQ7) (dQ8) (dQ9) (i8) (i6) (g4) (g1) (e8) (fun _ => rfl) (fun _ => rfl) dh2 dh3 dh4 dh5 dh6 dh7 dh8 dh9 g7 g6 g2 g3 g5 (fun _ => rfl) f0 e9 f2 f1 (fun _ => rfl) (fun _ => rfl) c0 b0 (fun _ => rfl) (fun _ => rfl) i5 d0 a7 (fun _ => rfl) (fun _ => rfl) g9 g0 f5 d4 c1 a9 (fun _ => rfl) (fun _ => rfl) i0 f9 f8 e6 e7 d6 b9 d1 a8 (fun _ => rfl) (fun _ => rfl) i3 f4 f7 e5 e3 d2 d3 d8 b8 b4 (cnt_dec h0 (by show 1 < 15; decide) dhn)))
      refine allRdy_q rfl rfl (fun h0 h1 => ?_) ?_
      ·
       cases (show dB2 = false from h0)
       refine ra hA 1 (by cbv) ?_
       exact ops_done (dwp_to [] (by cbv) rfl (ih dB0 dB1 true dB3 dB4 dB5 dB6 dB7 dB8 dB9 a6 a4 a3 a2 a1 (dQ0) (dQ1) (.pt 1 0 3) (dQ3) (dQ4) (dQ5) (dQ6) (dQ7) (dQ8) (dQ9) (i8) (i6) (g4) (g1) (e8) dh0 dh1 (fun _ => rfl) dh3 dh4 dh5 dh6 dh7 dh8 dh9 g7 g6 g2 g3 g5 f3 (fun _ => rfl) e9 f2 f1 c2 j5 c0 b0 j1 i4 (fun _ => rfl) d0 a7 j3 i1 (fun _ => rfl) g0 f5 d4 c1 a9 j4 g8 (fun _ => rfl) f9 f8 e6 e7 d6 b9 d1 a8 i7 i2 (fun _ => rfl) f4 f7 e5 e3 d2 d3 d8 b8 b4 (cnt_dec h0 (by show 2 < 15; decide) dhn)))
      refine allRdy_q rfl rfl (fun h0 h1 => ?_) ?_
      ·
       cases (show dB3 = false from h0)
       obtain rfl : dB2 = true := h1.1
       obtain rfl := dh2 rfl
       refine ra hA 1 (by cbv) ?_
       exact ops_done (dwp_to [] (by cbv) rfl (ih dB0 dB1 true true dB4 dB5 dB6 dB7 dB8 dB9 a6 a4 a3 a2 a1 (dQ0) (dQ1) (.pt 1 0 3) (.str ByteArray.empty) (dQ4) (dQ5) (dQ6) (dQ7) (dQ8) (dQ9) (i8) (i6) (g4) (g1) (e8) dh0 dh1 (fun _ => rfl) (fun _ => rfl) dh4 dh5 dh6 dh7 dh8 dh9 g7 g6 g2 g3 g5 f3 (fun _ => rfl) e9 f2 f1 c2 j5 (fun _ => rfl) b0 j1 i4 (fun _ => rfl) d0 a7 j3 i1 (fun _ => rfl) (fun _ => rfl) f5 d4 c1 a9 j4 g8 (fun _ => rfl) (fun _ => rfl) f8 e6 e7 d6 b9 d1 a8 i7 i2 (fun _ => rfl) (fun _ => rfl) f7 e5 e3 d2 d3 d8 b8 b4 (cnt_dec h0 (by show 3 < 15; decide) dhn)))
      refine allRdy_q rfl rfl (fun h0 h1 => ?_) ?_
      ·
       cases (show dB4 = false from h0)
       refine ra hA 1 (by cbv) ?_
       exact ops_done (dwp_to [] (by cbv) rfl (ih dB0 dB1 dB2 dB3 true dB5 dB6 dB7 dB8 dB9 a6 a4 a3 a2 a1 (dQ0) (dQ1) (dQ2) (dQ3) (.pt 1 0 5) (dQ5) (dQ6) (dQ7) (dQ8) (dQ9) (i8) (i6) (g4) (g1) (e8) dh0 dh1 dh2 dh3 (fun _ => rfl) dh5 dh6 dh7 dh8 dh9 g7 g6 g2 g3 g5 f3 f0 (fun _ => rfl) f2 f1 c2 j5 c0 b0 j1 i4 i5 d0 a7 j3 i1 g9 g0 (fun _ => rfl) d4 c1 a9 j4 g8 i0 f9 (fun _ => rfl) e6 e7 d6 b9 d1 a8 i7 i2 i3 f4 (fun _ => rfl) e5 e3 d2 d3 d8 b8 b4 (cnt_dec h0 (by show 4 < 15; decide) dhn)))
      refine allRdy_q rfl rfl (fun h0 h1 => ?_) ?_
      ·
       cases (show dB5 = false from h0)
       obtain rfl : dB4 = true := h1.1
       obtain rfl := dh4 rfl
       refine ra hA 1 (by cbv) ?_
       exact ops_done (dwp_to [] (by cbv) rfl (ih dB0 dB1 dB2 dB3 true true dB6 dB7 dB8 dB9 a6 a4 a3 a2 a1 (dQ0) (dQ1) (dQ2) (dQ3) (.pt 1 0 5) (.zc) (dQ6) (dQ7) (dQ8) (dQ9) (i8) (i6) (g4) (g1) (e8) dh0 dh1 dh2 dh3 (fun _ => rfl) (fun _ => rfl) dh6 dh7 dh8 dh9 g7 g6 g2 g3 g5 f3 f0 (fun _ => rfl) f2 f1 c2 j5 c0 b0 j1 i4 i5 (fun _ => rfl) a7 j3 i1 g9 g0 (fun _ => rfl) d4 c1 a9 j4 g8 i0 f9 (fun _ => rfl) (fun _ => rfl) e7 d6 b9 d1 a8 i7 i2 i3 f4 (fun _ => rfl) (fun _ => rfl) e3 d2 d3 d8 b8 b4 (cnt_dec h0 (by show 5 < 15; decide) dhn)))
      refine allRdy_q rfl rfl (fun h0 h1 => ?_) ?_
      ·
       cases (show dB6 = false from h0)
       refine ra hA 1 (by cbv) ?_
       exact ops_done (dwp_to [] (by cbv) rfl (ih dB0 dB1 dB2 dB3 dB4 dB5 true dB7 dB8 dB9 a6 a4 a3 a2 a1 (dQ0) (dQ1) (dQ2) (dQ3) (dQ4) (dQ5) (.pt 1 0 6) (dQ7) (dQ8) (dQ9) (i8) (i6) (g4) (g1) (e8) dh0 dh1 dh2 dh3 dh4 dh5 (fun _ => rfl) dh7 dh8 dh9 g7 g6 g2 g3 g5 f3 f0 e9 (fun _ => rfl) f1 c2 j5 c0 b0 j1 i4 i5 d0 a7 j3 i1 g9 g0 f5 d4 c1 a9 j4 g8 i0 f9 f8 e6 (fun _ => rfl) d6 b9 d1 a8 i7 i2 i3 f4 f7 e5 (fun _ => rfl) d2 d3 d8 b8 b4 (cnt_dec h0 (by show 6 < 15; decide) dhn)))
      refine allRdy_q rfl rfl (fun h0 h1 => ?_) ?_
      ·
       cases (show dB7 = false from h0)
       obtain rfl : dB6 = true := h1.1
       obtain rfl := dh6 rfl
       refine ra hA 1 (by cbv) ?_
       exact ops_done (dwp_to [] (by cbv) rfl (ih dB0 dB1 dB2 dB3 dB4 dB5 true true dB8 dB9 a6 a4 a3 a2 a1 (dQ0) (dQ1) (dQ2) (dQ3) (dQ4) (dQ5) (.pt 1 0 6) (.int .i64 0) (dQ8) (dQ9) (i8) (i6) (g4) (g1) (e8) dh0 dh1 dh2 dh3 dh4 dh5 (fun _ => rfl) (fun _ => rfl) dh8 dh9 g7 g6 g2 g3 g5 f3 f0 e9 (fun _ => rfl) f1 c2 j5 c0 b0 j1 i4 i5 d0 a7 j3 i1 g9 g0 f5 d4 (fun _ => rfl) a9 j4 g8 i0 f9 f8 e6 (fun _ => rfl) d6 b9 d1 a8 i7 i2 i3 f4 f7 e5 (fun _ => rfl) (fun _ => rfl) d3 d8 b8 b4 (cnt_dec h0 (by show 7 < 15; decide) dhn)))
      refine allRdy_q rfl rfl (fun h0 h1 => ?_) ?_
      ·
       cases (show dB8 = false from h0)
       refine ra hA 1 (by cbv) ?_
       exact ops_done (dwp_to [] (by cbv) rfl (ih dB0 dB1 dB2 dB3 dB4 dB5 dB6 dB7 true dB9 a6 a4 a3 a2 a1 (dQ0) (dQ1) (dQ2) (dQ3) (dQ4) (dQ5) (dQ6) (dQ7) (.pt 1 0 7) (dQ9) (i8) (i6) (g4) (g1) (e8) dh0 dh1 dh2 dh3 dh4 dh5 dh6 dh7 (fun _ => rfl) dh9 g7 g6 g2 g3 g5 f3 f0 e9 f2 (fun _ => rfl) c2 j5 c0 b0 j1 i4 i5 d0 a7 j3 i1 g9 g0 f5 d4 c1 a9 j4 g8 i0 f9 f8 e6 e7 d6 b9 d1 a8 i7 i2 i3 f4 f7 e5 e3 d2 (fun _ => rfl) d8 b8 b4 (cnt_dec h0 (by show 8 < 15; decide) dhn)))
      refine allRdy_q rfl rfl (fun h0 h1 => ?_) ?_
      ·
       cases (show dB9 = false from h0)
       obtain rfl : dB8 = true := h1.1
       obtain rfl := dh8 rfl
       refine ra hA 1 (by cbv) ?_
       exact ops_done (dwp_to [] (by cbv) rfl (ih dB0 dB1 dB2 dB3 dB4 dB5 dB6 dB7 true true a6 a4 a3 a2 a1 (dQ0) (dQ1) (dQ2) (dQ3) (dQ4) (dQ5) (dQ6) (dQ7) (.pt 1 0 7) (.str ByteArray.empty) (i8) (i6) (g4) (g1) (e8) dh0 dh1 dh2 dh3 dh4 dh5 dh6 dh7 (fun _ => rfl) (fun _ => rfl) g7 g6 g2 g3 g5 f3 f0 e9 f2 (fun _ => rfl) c2 j5 c0 b0 j1 i4 i5 d0 a7 j3 i1 g9 g0 f5 d4 c1 a9 j4 g8 i0 f9 f8 e6 e7 d6 b9 (fun _ => rfl) a8 i7 i2 i3 f4 f7 e5 e3 d2 (fun _ => rfl) d8 b8 b4 (cnt_dec h0 (by show 9 < 15; decide) dhn)))
      refine allRdy_q rfl rfl (fun h0 h1 => ?_) ?_
      ·
       cases (show a6 = false from h0)
       obtain rfl : dB1 = true := h1.1
       obtain rfl := dh1 rfl
       obtain rfl : dB0 = true := f3 rfl
       obtain rfl := dh0 rfl
       refine ra hA 1 (by cbv) ?_
       exact ops_done (dwp_to [] (by cbv) rfl (ih true true dB2 dB3 dB4 dB5 dB6 dB7 dB8 dB9 true a4 a3 a2 a1 (.pt 1 0 4) (.int .i64 0) (dQ2) (dQ3) (dQ4) (dQ5) (dQ6) (dQ7) (dQ8) (dQ9) (.int .i64 0) (i6) (g4) (g1) (e8) (fun _ => rfl) (fun _ => rfl) dh2 dh3 dh4 dh5 dh6 dh7 dh8 dh9 (fun _ => rfl) g6 g2 g3 g5 (fun _ => rfl) f0 e9 f2 f1 (fun _ => rfl) (fun _ => rfl) c0 (fun _ => rfl) (fun _ => rfl) (fun _ => rfl) i5 d0 a7 (fun _ => rfl) (fun _ => rfl) g9 g0 f5 (fun _ => rfl) c1 a9 (fun _ => rfl) (fun _ => rfl) i0 f9 f8 e6 e7 (fun _ => rfl) b9 d1 a8 (fun _ => rfl) (fun _ => rfl) i3 f4 f7 e5 e3 d2 d3 (fun _ => rfl) b8 b4 (cnt_dec h0 (by show 10 < 15; decide) dhn)))
      refine allRdy_q rfl rfl (fun h0 h1 => ?_) ?_
      ·
       cases (show a4 = false from h0)
       obtain rfl : dB3 = true := h1.1
       obtain rfl := dh3 rfl
       obtain rfl : dB2 = true := f0 rfl
       obtain rfl := dh2 rfl
       obtain rfl : a6 = true := h1.2.1
       obtain rfl := g7 rfl
       obtain rfl : dB1 = true := c2 rfl
       obtain rfl := dh1 rfl
       obtain rfl : dB0 = true := f3 rfl
       obtain rfl := dh0 rfl
       refine ra hA 1 (by cbv) ?_
       exact ops_done (dwp_to [] (by cbv) rfl (ih true true true true dB4 dB5 dB6 dB7 dB8 dB9 true true a3 a2 a1 (.pt 1 0 4) (.int .i64 0) (.pt 1 0 3) (.str ByteArray.empty) (dQ4) (dQ5) (dQ6) (dQ7) (dQ8) (dQ9) (.int .i64 0) (.str ByteArray.empty) (g4) (g1) (e8) (fun _ => rfl) (fun _ => rfl) (fun _ => rfl) (fun _ => rfl) dh4 dh5 dh6 dh7 dh8 dh9 (fun _ => rfl) (fun _ => rfl) g2 g3 g5 (fun _ => rfl) (fun _ => rfl) e9 f2 f1 (fun _ => rfl) (fun _ => rfl) (fun _ => rfl) (fun _ => rfl) (fun _ => rfl) (fun _ => rfl) (fun _ => rfl) d0 (fun _ => rfl) (fun _ => rfl) (fun _ => rfl) (fun _ => rfl) (fun _ => rfl) f5 (fun _ => rfl) c1 a9 (fun _ => rfl) (fun _ => rfl) (fun _ => rfl) (fun _ => rfl) f8 e6 e7 (fun _ => rfl) (fun _ => rfl) d1 a8 (fun _ => rfl) (fun _ => rfl) (fun _ => rfl) (fun _ => rfl) f7 e5 e3 d2 d3 (fun _ => rfl) (fun _ => rfl) b4 (cnt_dec h0 (by show 11 < 15; decide) dhn)))
      refine allRdy_q rfl rfl (fun h0 h1 => ?_) ?_
      ·
       cases (show a3 = false from h0)
       obtain rfl : dB5 = true := h1.1
       obtain rfl := dh5 rfl
       obtain rfl : dB4 = true := e9 rfl
       obtain rfl := dh4 rfl
       obtain rfl : a4 = true := h1.2.1
       obtain rfl := g6 rfl
       obtain rfl : dB3 = true := c0 rfl
       obtain rfl := dh3 rfl
       obtain rfl : dB2 = true := f0 rfl
       obtain rfl := dh2 rfl
       obtain rfl : a6 = true := b0 rfl
       obtain rfl := g7 rfl
       obtain rfl : dB1 = true := c2 rfl
       obtain rfl := dh1 rfl
       obtain rfl : dB0 = true := f3 rfl
       obtain rfl := dh0 rfl
       refine ra hA 1 (by cbv) ?_
       exact ops_done (dwp_to [] (by cbv) rfl (ih true true true true true true dB6 dB7 dB8 dB9 true true true a2 a1 (.pt 1 0 4) (.int .i64 0) (.pt 1 0 3) (.str ByteArray.empty) (.pt 1 0 5) (.zc) (dQ6) (dQ7) (dQ8) (dQ9) (.int .i64 0) (.str ByteArray.empty) (.zc) (g1) (e8) (fun _ => rfl) (fun _ => rfl) (fun _ => rfl) (fun _ => rfl) (fun _ => rfl) (fun _ => rfl) dh6 dh7 dh8 dh9 (fun _ => rfl) (fun _ => rfl) (fun _ => rfl) g3 g5 (fun _ => rfl) (fun _ => rfl) (fun _ => rfl) f2 f1 (fun _ => rfl) (fun _ => rfl) (fun _ => rfl) (fun _ => rfl) (fun _ => rfl) (fun _ => rfl) (fun _ => rfl) (fun _ => rfl) (fun _ => rfl) (fun _ => rfl) (fun _ => rfl) (fun _ => rfl) (fun _ => rfl) (fun _ => rfl) (fun _ => rfl) c1 (fun _ => rfl) (fun _ => rfl) (fun _ => rfl) (fun _ => rfl) (fun _ => rfl) (fun _ => rfl) (fun _ => rfl) e7 (fun _ => rfl) (fun _ => rfl) d1 a8 (fun _ => rfl) (fun _ => rfl) (fun _ => rfl) (fun _ => rfl) (fun _ => rfl) (fun _ => rfl) e3 d2 d3 (fun _ => rfl) (fun _ => rfl) (fun _ => rfl) (cnt_dec h0 (by show 12 < 15; decide) dhn)))
      refine allRdy_q rfl rfl (fun h0 h1 => ?_) ?_
      ·
       cases (show a2 = false from h0)
       obtain rfl : dB7 = true := h1.1
       obtain rfl := dh7 rfl
       obtain rfl : dB6 = true := f2 rfl
       obtain rfl := dh6 rfl
       obtain rfl : a3 = true := h1.2.1
       obtain rfl := g2 rfl
       obtain rfl : dB5 = true := d0 rfl
       obtain rfl := dh5 rfl
       obtain rfl : dB4 = true := e9 rfl
       obtain rfl := dh4 rfl
       obtain rfl : a4 = true := a7 rfl
       obtain rfl := g6 rfl
       obtain rfl : dB3 = true := c0 rfl
       obtain rfl := dh3 rfl
       obtain rfl : dB2 = true := f0 rfl
       obtain rfl := dh2 rfl
       obtain rfl : a6 = true := b0 rfl
       obtain rfl := g7 rfl
       obtain rfl : dB1 = true := c2 rfl
       obtain rfl := dh1 rfl
       obtain rfl : dB0 = true := f3 rfl
       obtain rfl := dh0 rfl
       refine ra hA 1 (by cbv) ?_
       exact ops_done (dwp_to [] (by cbv) rfl (ih true true true true true true true true dB8 dB9 true true true true a1 (.pt 1 0 4) (.int .i64 0) (.pt 1 0 3) (.str ByteArray.empty) (.pt 1 0 5) (.zc) (.pt 1 0 6) (.int .i64 0) (dQ8) (dQ9) (.int .i64 0) (.str ByteArray.empty) (.zc) (.int .i64 0) (e8) (fun _ => rfl) (fun _ => rfl) (fun _ => rfl) (fun _ => rfl) (fun _ => rfl) (fun _ => rfl) (fun _ => rfl) (fun _ => rfl) dh8 dh9 (fun _ => rfl) (fun _ => rfl) (fun _ => rfl) (fun _ => rfl) g5 (fun _ => rfl) (fun _ => rfl) (fun _ => rfl) (fun _ => rfl) f1 (fun _ => rfl) (fun _ => rfl) (fun _ => rfl) (fun _ => rfl) (fun _ => rfl) (fun _ => rfl) (fun _ => rfl) (fun _ => rfl) (fun _ => rfl) (fun _ => rfl) (fun _ => rfl) (fun _ => rfl) (fun _ => rfl) (fun _ => rfl) (fun _ => rfl) (fun _ => rfl) (fun _ => rfl) (fun _ => rfl) (fun _ => rfl) (fun _ => rfl) (fun _ => rfl) (fun _ => rfl) (fun _ => rfl) (fun _ => rfl) (fun _ => rfl) (fun _ => rfl) d1 (fun _ => rfl) (fun _ => rfl) (fun _ => rfl) (fun _ => rfl) (fun _ => rfl) (fun _ => rfl) (fun _ => rfl) (fun _ => rfl) (fun _ => rfl) d3 (fun _ => rfl) (fun _ => rfl) (fun _ => rfl) (cnt_dec h0 (by show 13 < 15; decide) dhn)))
      refine allRdy_q rfl rfl (fun h0 h1 => ?_) ?_
      ·
       cases (show a1 = false from h0)
       obtain rfl : dB9 = true := h1.1
       obtain rfl := dh9 rfl
       obtain rfl : dB8 = true := f1 rfl
       obtain rfl := dh8 rfl
       obtain rfl : a2 = true := h1.2.1
       obtain rfl := g3 rfl
       obtain rfl : dB7 = true := c1 rfl
       obtain rfl := dh7 rfl
       obtain rfl : dB6 = true := f2 rfl
       obtain rfl := dh6 rfl
       obtain rfl : a3 = true := a9 rfl
       obtain rfl := g2 rfl
       obtain rfl : dB5 = true := d0 rfl
       obtain rfl := dh5 rfl
       obtain rfl : dB4 = true := e9 rfl
       obtain rfl := dh4 rfl
       obtain rfl : a4 = true := a7 rfl
       obtain rfl := g6 rfl
       obtain rfl : dB3 = true := c0 rfl
       obtain rfl := dh3 rfl
       obtain rfl : dB2 = true := f0 rfl
       obtain rfl := dh2 rfl
       obtain rfl : a6 = true := b0 rfl
       obtain rfl := g7 rfl
       obtain rfl : dB1 = true := c2 rfl
       obtain rfl := dh1 rfl
       obtain rfl : dB0 = true := f3 rfl
       obtain rfl := dh0 rfl
       refine ra hA 1 (by cbv) ?_
       exact ops_done (dwp_to [] (by cbv) rfl (ih true true true true true true true true true true true true true true true (.pt 1 0 4) (.int .i64 0) (.pt 1 0 3) (.str ByteArray.empty) (.pt 1 0 5) (.zc) (.pt 1 0 6) (.int .i64 0) (.pt 1 0 7) (.str ByteArray.empty) (.int .i64 0) (.str ByteArray.empty) (.zc) (.int .i64 0) (.str ByteArray.empty) (fun _ => rfl) (fun _ => rfl) (fun _ => rfl) (fun _ => rfl) (fun _ => rfl) (fun _ => rfl) (fun _ => rfl) (fun _ => rfl) (fun _ => rfl) (fun _ => rfl) (fun _ => rfl) (fun _ => rfl) (fun _ => rfl) (fun _ => rfl) (fun _ => rfl) (fun _ => rfl) (fun _ => rfl) (fun _ => rfl) (fun _ => rfl) (fun _ => rfl) (fun _ => rfl) (fun _ => rfl) (fun _ => rfl) (fun _ => rfl) (fun _ => rfl) (fun _ => rfl) (fun _ => rfl) (fun _ => rfl) (fun _ => rfl) (fun _ => rfl) (fun _ => rfl) (fun _ => rfl) (fun _ => rfl) (fun _ => rfl) (fun _ => rfl) (fun _ => rfl) (fun _ => rfl) (fun _ => rfl) (fun _ => rfl) (fun _ => rfl) (fun _ => rfl) (fun _ => rfl) (fun _ => rfl) (fun _ => rfl) (fun _ => rfl) (fun _ => rfl) (fun _ => rfl) (fun _ => rfl) (fun _ => rfl) (fun _ => rfl) (fun _ => rfl) (fun _ => rfl) (fun _ => rfl) (fun _ => rfl) (fun _ => rfl) (fun _ => rfl) (fun _ => rfl) (fun _ => rfl) (fun _ => rfl) (fun _ => rfl) (cnt_dec h0 (by show 14 < 15; decide) dhn)))
      exact trivial
    exact dwp_to [] (by cbv) rfl (H_ 15 false false false false false false false false false false false false false false false (.bad) (.bad) (.bad) (.bad) (.bad) (.bad) (.bad) (.bad) (.bad) (.bad) (.bad) (.bad) (.bad) (.bad) (.bad) (fun h => absurd h (by decide)) (fun h => absurd h (by decide)) (fun h => absurd h (by decide)) (fun h => absurd h (by decide)) (fun h => absurd h (by decide)) (fun h => absurd h (by decide)) (fun h => absurd h (by decide)) (fun h => absurd h (by decide)) (fun h => absurd h (by decide)) (fun h => absurd h (by decide)) (fun h => absurd h (by decide)) (fun h => absurd h (by decide)) (fun h => absurd h (by decide)) (fun h => absurd h (by decide)) (fun h => absurd h (by decide)) (fun h => absurd h (by decide)) (fun h => absurd h (by decide)) (fun h => absurd h (by decide)) (fun h => absurd h (by decide)) (fun h => absurd h (by decide)) (fun h => absurd h (by decide)) (fun h => absurd h (by decide)) (fun h => absurd h (by decide)) (fun h => absurd h (by decide)) (fun h => absurd h (by decide)) (fun h => absurd h (by decide)) (fun h => absurd h (by decide)) (fun h => absurd h (by decide)) (fun h => absurd h (by decide)) (fun h => absurd h (by decide)) (fun h => absurd h (by decide)) (fun h => absurd h (by decide)) (fun h => absurd h (by decide)) (fun h => absurd h (by decide)) (fun h => absurd h (by decide)) (fun h => absurd h (by decide)) (fun h => absurd h (by decide)) (fun h => absurd h (by decide)) (fun h => absurd h (by decide)) (fun h => absurd h (by decide)) (fun h => absurd h (by decide)) (fun h => absurd h (by decide)) (fun h => absurd h (by decide)) (fun h => absurd h (by decide)) (fun h => absurd h (by decide)) (fun h => absurd h (by decide)) (fun h => absurd h (by decide)) (fun h => absurd h (by decide)) (fun h => absurd h (by decide)) (fun h => absurd h (by decide)) (fun h => absurd h (by decide)) (fun h => absurd h (by decide)) (fun h => absurd h (by decide)) (fun h => absurd h (by decide)) (fun h => absurd h (by decide)) (fun h => absurd h (by decide)) (fun h => absurd h (by decide)) (fun h => absurd h (by decide)) (fun h => absurd h (by decide)) (fun h => absurd h (by decide)) rfl)
   refine gs (gs (gr (ra hA 2 (by cbv) (od ?_))))
   refine go_block ?_
   refine gs (gs (gr (ra hA 2 (by cbv) (od ?_))))
   refine go_cond rfl (fun c12 => ?_) (fun c12 => ?_)
   ·
    refine gk ?_
    refine go_cond rfl (fun c13 => ?_) (fun c13 => ?_)
    ·
     refine gk (gs (gr (ra hA 6 (by cbv) ?_)))
     refine ops_split 97 rfl (fun c14 => ?_) (fun c14 => ?_)
     ·
      refine ra hA 4 (by cbv) ?_
      refine ops_split 101 rfl (fun c15 => ?_) (fun c15 => ?_)
      ·
       refine ra hA 5 (by cbv) ?_
       refine ops_split 106 rfl (fun c16 => ?_) (fun c16 => ?_)
       ·
        refine ra hA 4 (by cbv) ?_
        refine ops_split 110 rfl (fun c17 => ?_) (fun c17 => ?_)
        ·
         refine ra hA 4 (by cbv) (od ?_)
         refine go_ret ⟨_, by cbv, ?_⟩
         show _ = (PV.bool (A.scmp .eql ByteArray.empty (ByteArray.mk #[])))
         refine congrArg PV.bool ?_
         subst m0 l4
         subst hA
         simp [okU, inboxT, std, pvEqL, pvEq, (show ByteArray.empty = ByteArray.mk #[] from rfl), c6, c11, c14, c15, c16, c17]
        ·
         exact no_f c17 (show (A.cmp .eql 0 0) = true from by subst hA; rfl)
       ·
        exact no_f c16 (show (A.cmp .eql 0 0) = true from by subst hA; rfl)
      ·
       exact no_f c15 (show (A.scmp .eql ByteArray.empty (ByteArray.mk #[])) = true from by exact lseql_yes hA rfl)
     ·
      exact no_f c14 (show (A.cmp .eql 0 0) = true from by subst hA; rfl)
    ·
     exact no_f c13 (show (A.cmp .eql 1 1) = true from by subst hA; rfl)
   ·
    exact no_f c12 (show (A.cmp .eql 1 1) = true from by subst hA; rfl)
theorem r_impl_RecOk (A : Alg) (hA : A = std)  (nv : Int) (u : ByteArray) (zu : (ByteArray.size u : Int) ≤ 4611686018427387904) : Real Try.prog 157 [.agg [.int .i64 1, .int .i64 nv, .int .i64 0, .int .i64 1, .int .i64 0, .str u, .str (ByteArray.mk #[105, 110, 98, 111, 120]), .str ByteArray.empty]] (.bool (recB nv u)) := by
 refine real_args (args' := [.agg [.int .i64 1, .int .i64 nv, .int .i64 0, .int .i64 1, .int .i64 0, .str u, .str (ByteArray.mk #[105, 110, 98, 111, 120]), .str ByteArray.empty]]) (by rfl) ?_
 have zi : (ByteArray.size (ByteArray.mk #[105, 110, 98, 111, 120]) : Int) ≤ 4611686018427387904 := by decide
 refine real tyOk Try.func157 (by kernel_rfl) (afun_of rfl ?_)
 refine gs (gr (ra hA 2 (by cbv) (od ?_)))
 refine gs (gs (gr (ra hA 2 (by cbv) ?_)))
 obtain ⟨l3, l0, hc2⟩ : ∃ (l3 : Bool), l3 = (inR nv 1 9999) ∧ Real Try.prog 101 [.int .i64 nv, .int .i64 1, .int .i64 9999] (.bool l3) := ⟨_, rfl, by exact r_impl_in A hA nv 1 9999 ⟩
 refine ops_callV rfl rfl (by cbv) (by cbv) hc2 (.inr rfl) (by cbv) ?_
 refine ra hA 1 (by cbv) (od ?_)
 refine go_cond rfl (fun c3 => ?_) (fun c3 => ?_)
 ·
  have c4 : l3 = false := bnot_t hA c3
  refine gs (gr (ra hA 1 (by cbv) (od ?_)))
  refine go_ret ⟨_, by cbv, ?_⟩
  show _ = (PV.bool false)
  refine congrArg PV.bool ?_
  subst l0
  subst hA
  simp [recB, inboxT, std, pvEqL, pvEq, (show ByteArray.empty = ByteArray.mk #[] from rfl), c4]
 ·
  have c5 : l3 = true := bnot_f hA c3
  refine gk (gs (gr (ra hA 3 (by cbv) (od ?_))))
  refine gs (gr (ra hA 4 (by cbv) (od ?_)))
  refine gs (gr (ra hA 1 (by cbv) (od ?_)))
  refine gs (gs (gr (ra hA 4 (by cbv) ?_)))
  refine ops_split 15 rfl (fun c6 => ?_) (fun c6 => ?_)
  ·
   exact no_t c6 (show (A.cmp .eql 1 3) = false from by subst hA; rfl)
  ·
   refine ra hA 5 (by cbv) ?_
   refine ops_split 20 rfl (fun c7 => ?_) (fun c7 => ?_)
   ·
    exact no_t c7 (show (A.cmp .eql 1 4) = false from by subst hA; rfl)
   ·
    refine ra hA 4 (by cbv) (od ?_)
    refine go_cond rfl (fun c8 => ?_) (fun c8 => ?_)
    ·
     exact no_t c8 (show (A.cmp .eql 1 5) = false from by subst hA; rfl)
    ·
     refine gk (gs (gs (gr (ra hA 4 (by cbv) ?_))))
     refine ops_split 32 rfl (fun c9 => ?_) (fun c9 => ?_)
     ·
      exact no_t c9 (show (A.cmp .eql 1 3) = false from by subst hA; rfl)
     ·
      refine ra hA 4 (by cbv) (od ?_)
      refine go_cond rfl (fun c10 => ?_) (fun c10 => ?_)
      ·
       exact no_t c10 (show (A.cmp .eql 1 4) = false from by subst hA; rfl)
      ·
       refine gk (gs (gs (gr (ra hA 2 (by cbv) (od ?_)))))
       refine go_block ?_
       refine gs (gr (ra hA 2 (by cbv) (od ?_)))
       refine go_cond rfl (fun c11 => ?_) (fun c11 => ?_)
       ·
        refine gs (gr (ra hA 2 (by cbv) ?_))
        obtain ⟨l5, k9, m7⟩ : ∃ (l5 : Bool), l5 = (wordOk u) ∧ Real Try.prog 102 [.str u] (.bool l5) := ⟨_, rfl, by exact r_impl_WordOk A hA u (by first | assumption | omega)⟩
        refine ops_callV rfl rfl (by cbv) (by cbv) m7 (.inr rfl) (by cbv) ?_
        refine ra hA 1 (by cbv) ?_
        refine ops_split 51 rfl (fun c14 => ?_) (fun c14 => ?_)
        ·
         refine ra hA 2 (by cbv) ?_
         obtain ⟨l1, l8, m6⟩ : ∃ (l1 : Bool), l1 = (wordOk (ByteArray.mk #[105, 110, 98, 111, 120])) ∧ Real Try.prog 102 [.str (ByteArray.mk #[105, 110, 98, 111, 120])] (.bool l1) := ⟨_, rfl, by exact r_impl_WordOk A hA (ByteArray.mk #[105, 110, 98, 111, 120]) (by first | assumption | omega)⟩
         refine ops_callG rfl rfl rfl rfl (by cbv) (by cbv) m6 (.inr rfl) (by cbv) ?_
         refine ra hA 2 (by cbv) ?_
         refine ops_split 56 rfl (fun c17 => ?_) (fun c17 => ?_)
         ·
          refine ra hA 2 (by cbv) ?_
          have m3 : Real Try.prog 101 [.int .i64 1, .int .i64 1, .int .i64 10000] (.bool true) := by exact r_impl_in A hA 1 1 10000
          refine ops_callG rfl rfl rfl rfl (by cbv) (by cbv) m3 (.inr rfl) (by cbv) ?_
          refine ra hA 2 (by cbv) (od ?_)
          refine gr (ra hA 6 (by cbv) (od ?_))
          refine gs (gr (ra hA 7 (by cbv) (od ?_)))
          refine go_ret ⟨_, by cbv, ?_⟩
          show _ = (PV.bool (A.aeq [.int .i64 0, .int .i64 0, .int .i64 0, .int .i64 0, .int .i64 0, .str (ByteArray.mk #[]), .str (ByteArray.mk #[]), .str ByteArray.empty] [.int .i64 0, .int .i64 0, .int .i64 0, .int .i64 0, .int .i64 0, .str ByteArray.empty, .str ByteArray.empty, .str ByteArray.empty]))
          refine congrArg PV.bool ?_
          subst l8 k9 l0
          subst hA
          simp [recB, inboxT, std, pvEqL, pvEq, (show ByteArray.empty = ByteArray.mk #[] from rfl), c5, c6, c7, c9, c14, c17]
         ·
          refine ra hA 5 (by cbv) (od ?_)
          refine gr (ra hA 6 (by cbv) (od ?_))
          refine gs (gr (ra hA 7 (by cbv) (od ?_)))
          refine go_ret ⟨_, by cbv, ?_⟩
          show _ = (PV.bool false)
          refine congrArg PV.bool ?_
          subst l8 k9 l0
          subst hA
          simp [recB, inboxT, std, pvEqL, pvEq, (show ByteArray.empty = ByteArray.mk #[] from rfl), c5, c6, c7, c9, c14, c17]
        ·
         refine ra hA 10 (by cbv) (od ?_)
         refine gr (ra hA 6 (by cbv) (od ?_))
         refine gs (gr (ra hA 7 (by cbv) (od ?_)))
         refine go_ret ⟨_, by cbv, ?_⟩
         show _ = (PV.bool false)
         refine congrArg PV.bool ?_
         subst k9 l0
         subst hA
         simp [recB, inboxT, std, pvEqL, pvEq, (show ByteArray.empty = ByteArray.mk #[] from rfl), c5, c6, c7, c9, c14]
       ·
        exact no_f c11 (show (A.cmp .eql 1 1) = true from by subst hA; rfl)
theorem r_impl_Fitting (A : Alg) (hA : A = std) (s : GState) (nv : Int) (u : ByteArray) (zu : (ByteArray.size u : Int) ≤ 4611686018427387904) (hz : ∀ q ∈ zsState s, q ≤ 1048576) : Real Try.prog 140 [.agg (eState s), .int .i64 nv, .agg [.int .i64 1, .int .i64 nv, .int .i64 0, .int .i64 1, .int .i64 0, .str u, .str (ByteArray.mk #[105, 110, 98, 111, 120]), .str ByteArray.empty]] (.bool (fitB s.Boxes nv u)) := by
 obtain ⟨a0⟩ := s
 obtain ⟨f6, b3⟩ := nm (a0.map eBox)
 have e0 := rlen_map hA b3
 refine real_args (args' := [.agg [.sl 5 f6], .int .i64 nv, .agg [.int .i64 1, .int .i64 nv, .int .i64 0, .int .i64 1, .int .i64 0, .str u, .str (ByteArray.mk #[105, 110, 98, 111, 120]), .str ByteArray.empty]]) (by subst b3; rfl) ?_
 have zi : (ByteArray.size (ByteArray.mk #[105, 110, 98, 111, 120]) : Int) ≤ 4611686018427387904 := by decide
 have k3 : ∀ q ∈ zsBoxS a0, q ≤ 1048576 := fun q hq => hz q (by simp only [zsState, List.mem_append]; simp only [hq, true_or, or_true])
 have m1 : List.length a0 ≤ 1048576 := k3 _ (by simp [zsBoxS])
 refine real tyOk Try.func140 (by kernel_rfl) (afun_of rfl ?_)
 refine gs (gr (ra hA 3 (by cbv) (od ?_)))
 refine gs (gs (gr (ra hA 1 (by cbv) ?_)))
 obtain ⟨j0, j8, hc2⟩ : ∃ (j0 : Bool), j0 = (recB nv u) ∧ Real Try.prog 157 [.agg [.int .i64 1, .int .i64 nv, .int .i64 0, .int .i64 1, .int .i64 0, .str u, .str (ByteArray.mk #[105, 110, 98, 111, 120]), .str ByteArray.empty]] (.bool j0) := ⟨_, rfl, by exact r_impl_RecOk A hA nv u (by assumption)⟩
 refine ops_callV rfl rfl (by cbv) (by cbv) hc2 (.inr rfl) (by cbv) ?_
 refine ra hA 1 (by cbv) (od ?_)
 refine go_cond rfl (fun c3 => ?_) (fun c3 => ?_)
 ·
  have c4 : j0 = false := bnot_t hA c3
  refine gs (gr (ra hA 1 (by cbv) (od ?_)))
  refine go_ret ⟨_, by cbv, ?_⟩
  show _ = (PV.bool false)
  refine congrArg PV.bool ?_
  try simp only [slen_eq hA, e0] at *
  subst j8
  subst hA
  simp [fitB, inboxT, std, c4]
 ·
  have c5 : j0 = true := bnot_f hA c3
  refine gk (gs (gs (gr (ra hA 3 (by cbv) (od ?_)))))
  refine go_cond rfl (fun c6 => ?_) (fun c6 => ?_)
  ·
   refine gs (gr (ra hA 5 (by cbv) ?_))
   obtain ⟨b2, b5, b6, b7, b1, d7, d5, e1, e2, e4, a5, j7, hc8⟩ : ∃ (b2 : Int) (b5 : ByteArray) (b6 : ByteArray) (b7 : Int) (b1 : RR) (d7 : Bool), b2 = ((getB a0 u (ByteArray.mk #[105, 110, 98, 111, 120])).Valid) ∧ b5 = ((getB a0 u (ByteArray.mk #[105, 110, 98, 111, 120])).User) ∧ b6 = ((getB a0 u (ByteArray.mk #[105, 110, 98, 111, 120])).Name) ∧ b7 = ((getB a0 u (ByteArray.mk #[105, 110, 98, 111, 120])).Next) ∧ b1 = List.map eoMail ((getB a0 u (ByteArray.mk #[105, 110, 98, 111, 120])).Mails) ∧ d7 = (hasB a0 u (ByteArray.mk #[105, 110, 98, 111, 120])) ∧ Real Try.prog 155 [.agg [.sl 5 f6], .str u, .str (ByteArray.mk #[105, 110, 98, 111, 120])] (.tup [.agg [.int .i64 b2, .str b5, .str b6, .int .i64 b7, .ow 3 b1], .bool d7]) := ⟨_, _, _, _, _, _, rfl, rfl, rfl, rfl, rfl, rfl, by subst b3; exact r_impl_BoxOf A hA (⟨a0⟩ : GState) u (ByteArray.mk #[105, 110, 98, 111, 120]) (by assumption)⟩
   have d9 := rlen_map hA a5
   refine ops_callV rfl rfl (by cbv) (by cbv) hc8 (.inr rfl) (by cbv) ?_
   refine ra hA 6 (by cbv) (od ?_)
   refine gs (gr (ra hA 5 (by cbv) ?_))
   refine ops_split 30 rfl (fun c9 => ?_) (fun c9 => ?_)
   ·
    refine ra hA 5 (by cbv) ?_
    refine ops_split 35 rfl (fun c10 => ?_) (fun c10 => ?_)
    ·
     refine ra hA 4 (by cbv) ?_
     refine ops_split 39 rfl (fun c11 => ?_) (fun c11 => ?_)
     ·
      have c12 : d7 = false := bnot_t hA c11
      refine ra hA 3 (by cbv) ?_
      obtain ⟨i9, j9, l6⟩ : ∃ (i9 : RR), i9 = List.map eString (namesB a0 u) ∧ Real Try.prog 74 [.agg [.sl 5 f6], .str u] (.ow 1 i9) := ⟨_, rfl, by subst b3; exact r_impl_BoxesOf A hA (⟨a0⟩ : GState) u (by assumption)⟩
      have k8 := rlen_map hA j9
      refine ops_callG rfl rfl rfl rfl (by cbv) (by cbv) l6 (.inr rfl) (by cbv) ?_
      refine ra hA 4 (by cbv) (od ?_)
      refine go_ret ⟨_, by cbv, ?_⟩
      show _ = (PV.bool (A.cmp .lss (A.rlen i9) 3))
      refine congrArg PV.bool ?_
      try simp only [slen_eq hA, e0, d9, k8] at *
      subst j9 j7 a5 e4 e2 e1 d5 j8
      subst hA
      simp [fitB, inboxT, std, c5, c9, c10, c12]
     ·
      have c15 : d7 = true := bnot_f hA c11
      refine ra hA 8 (by cbv) (od ?_)
      refine go_ret ⟨_, by cbv, ?_⟩
      show _ = (PV.bool false)
      refine congrArg PV.bool ?_
      try simp only [slen_eq hA, e0, d9] at *
      subst j7 a5 e4 e2 e1 d5 j8
      subst hA
      simp [fitB, inboxT, std, c5, c9, c10, c15]
    ·
     exact no_f c10 (show (A.cmp .eql 1 1) = true from by subst hA; rfl)
   ·
    exact no_f c9 (show (A.cmp .eql nv nv) = true from by subst hA; simp [std])
  ·
   exact no_f c6 (show (A.cmp .eql 1 1) = true from by subst hA; rfl)
def S134_1 (p0 : Int) (p1 : Int) (p2 : ByteArray) (p3 : ByteArray) (p4 : ByteArray) : St := { sl := [.bad, .pt 1 0 0, .bad, .bad, .bad, .bad, .int .i64 p0, .bad, .bad, .bad, .bad, .bad, .bad, .bad, .bad, .bad, .bad, .bad, .bad, .bad, .bad, .bad, .bad, .bad, .bad, .bad, .bad, .bad, .bad, .bad, .bad, .bad, .bad, .bad, .bad, .bad, .bad, .bad, .bad, .bad, .bad, .bad, .bad, .bad, .bad, .bad, .bad, .bad, .bad, .bad, .bad, .bad, .bad, .bad, .bad, .bad, .bad, .bad, .bad, .bad, .bad, .bad, .bad, .bad, .bad, .bad, .bad, .bad, .bad, .bad, .bad, .bad, .bad, .bad, .bad, .bad, .bad, .bad, .bad, .bad, .bad, .bad, .bad, .bad, .bad, .bad, .bad, .bad, .bad, .bad, .bad, .bad, .bad, .bad, .bad, .bad, .bad, .bad, .bad, .bad, .bad, .bad, .bad, .bad, .bad, .bad, .bad, .bad, .bad, .bad, .bad, .bad, .bad, .bad, .bad, .bad, .bad, .bad, .bad, .bad, .bad, .bad, .bad, .bad, .bad, .bad, .bad, .bad, .bad, .bad, .bad, .bad, .bad, .bad, .bad, .bad, .bad, .bad, .bad, .bad, .bad, .bad, .bad, .bad, .bad, .bad, .bad, .bad, .bad, .bad, .bad], bl := [(1, ⟨.var, 8, [[.int .i64 p1, .str p2, .str p3, .str p4, .int .i64 p0, .zc, .int .i64 p0, .str p4]]⟩)] }
theorem r_spec_CallOk (A : Alg) (hA : A = std)  (u : ByteArray) (zu : (ByteArray.size u : Int) ≤ 4611686018427387904) : Real Try.prog 134 [.agg [.int .i64 1, .str u, .str (ByteArray.mk #[105, 110, 98, 111, 120]), .str ByteArray.empty, .int .i64 0, .zc, .int .i64 0, .str ByteArray.empty]] (.bool (okU u)) := by
 refine real_args (args' := [.agg [.int .i64 1, .str u, .str (ByteArray.mk #[105, 110, 98, 111, 120]), .str ByteArray.empty, .int .i64 0, .zc, .int .i64 0, .str ByteArray.empty]]) (by rfl) ?_
 have zi : (ByteArray.size (ByteArray.mk #[105, 110, 98, 111, 120]) : Int) ≤ 4611686018427387904 := by decide
 refine real tyOk Try.func134 (by kernel_rfl) (afun_of rfl ?_)
 refine gs (gr (ra hA 2 (by cbv) (od ?_)))
 refine gs (gs (gr (ra hA 2 (by cbv) ?_)))
 have hc2 : Real Try.prog 95 [.int .i64 1, .int .i64 1, .int .i64 6] (.bool true) := by exact r_spec_l01In A hA 1 1 6
 refine ops_callV rfl rfl (by cbv) (by cbv) hc2 (.inr rfl) (by cbv) ?_
 refine ra hA 2 (by cbv) ?_
 refine ops_split 11 rfl (fun c3 => ?_) (fun c3 => ?_)
 ·
  exact no_t c3 (show (A.bnot true) = false from by subst hA; rfl)
 ·
  refine ra hA 2 (by cbv) ?_
  obtain ⟨k5, l2, hc5⟩ : ∃ (k5 : Bool), k5 = (wordOk u) ∧ Real Try.prog 97 [.str u] (.bool k5) := ⟨_, rfl, by exact r_spec_WordOk A hA u (by first | assumption | omega)⟩
  refine ops_callG rfl rfl rfl rfl (by cbv) (by cbv) hc5 (.inr rfl) (by cbv) ?_
  refine ra hA 3 (by cbv) ?_
  refine ops_split 17 rfl (fun c6 => ?_) (fun c6 => ?_)
  ·
   have c7 : k5 = false := bnot_t hA c6
   refine ra hA 5 (by cbv) (od ?_)
   refine go_cond rfl (fun c8 => ?_) (fun c8 => ?_)
   ·
    refine gs (gr (ra hA 1 (by cbv) (od ?_)))
    refine go_ret ⟨_, by cbv, ?_⟩
    show _ = (PV.bool false)
    refine congrArg PV.bool ?_
    subst l2
    subst hA
    simp [okU, inboxT, std, pvEqL, pvEq, (show ByteArray.empty = ByteArray.mk #[] from rfl), c3, c7]
   ·
    exact no_f c8 (show true = true from by rfl)
  ·
   have c9 : k5 = true := bnot_f hA c6
   refine ra hA 2 (by cbv) ?_
   obtain ⟨k1, l7, m5⟩ : ∃ (k1 : Bool), k1 = (wordOk (ByteArray.mk #[105, 110, 98, 111, 120])) ∧ Real Try.prog 97 [.str (ByteArray.mk #[105, 110, 98, 111, 120])] (.bool k1) := ⟨_, rfl, by exact r_spec_WordOk A hA (ByteArray.mk #[105, 110, 98, 111, 120]) (by first | assumption | omega)⟩
   refine ops_callG rfl rfl rfl rfl (by cbv) (by cbv) m5 (.inr rfl) (by cbv) ?_
   refine ra hA 2 (by cbv) (od ?_)
   refine go_cond rfl (fun c12 => ?_) (fun c12 => ?_)
   ·
    have c13 : k1 = false := bnot_t hA c12
    refine gs (gr (ra hA 1 (by cbv) (od ?_)))
    refine go_ret ⟨_, by cbv, ?_⟩
    show _ = (PV.bool false)
    refine congrArg PV.bool ?_
    subst l7 l2
    subst hA
    simp [okU, inboxT, std, pvEqL, pvEq, (show ByteArray.empty = ByteArray.mk #[] from rfl), c3, c9, c13]
   ·
    have c14 : k1 = true := bnot_f hA c12
    refine gk (gs (gr (ra hA 4 (by cbv) (od ?_))))
    refine gs (gr (ra hA 4 (by cbv) (od ?_)))
    refine gs (gr (ra hA 4 (by cbv) (od ?_)))
    refine gs (gs (gr (ra hA 3 (by cbv) ?_)))
    refine ops_split 34 rfl (fun c15 => ?_) (fun c15 => ?_)
    ·
     refine ra hA 5 (by cbv) ?_
     refine ops_split 39 rfl (fun c16 => ?_) (fun c16 => ?_)
     ·
      exact no_t c16 (show (A.scmp .neq ByteArray.empty (ByteArray.mk #[])) = false from by exact lsneq_no hA rfl)
     ·
      refine ra hA 2 (by cbv) ?_
      refine ops_split 41 rfl (fun c17 => ?_) (fun c17 => ?_)
      ·
       exact no_t c17 (show (A.cmp .eql 1 6) = false from by subst hA; rfl)
      ·
       refine ra hA 10 (by cbv) ?_
       refine ops_split 51 rfl (fun c18 => ?_) (fun c18 => ?_)
       ·
        refine ra hA 4 (by cbv) ?_
        refine ops_split 55 rfl (fun c19 => ?_) (fun c19 => ?_)
        ·
         refine ra hA 6 (by cbv) ?_
         refine ops_split 61 rfl (fun c20 => ?_) (fun c20 => ?_)
         ·
          exact no_t c20 (show (A.cmp .neq 0 0) = false from by subst hA; rfl)
         ·
          refine ra hA 3 (by cbv) ?_
          refine ops_split 64 rfl (fun c21 => ?_) (fun c21 => ?_)
          ·
           refine ra hA 4 (by cbv) ?_
           refine ops_split 68 rfl (fun c22 => ?_) (fun c22 => ?_)
           ·
            refine ra hA 6 (by cbv) ?_
            refine ops_split 74 rfl (fun c23 => ?_) (fun c23 => ?_)
            ·
             exact no_t c23 (show (A.cmp .neq 0 0) = false from by subst hA; rfl)
            ·
             refine ra hA 3 (by cbv) ?_
             refine ops_split 77 rfl (fun c24 => ?_) (fun c24 => ?_)
             ·
              refine ra hA 6 (by cbv) ?_
              refine ops_split 83 rfl (fun c25 => ?_) (fun c25 => ?_)
              ·
               exact no_t c25 (show (A.scmp .neq ByteArray.empty (ByteArray.mk #[])) = false from by exact lsneq_no hA rfl)
              ·
               refine ra hA 4 (by cbv) ?_
               refine ops_split 87 rfl (fun c26 => ?_) (fun c26 => ?_)
               ·
                refine ra hA 6 (by cbv) (od ?_)
                refine go_cond rfl (fun c27 => ?_) (fun c27 => ?_)
                ·
                 exact no_t c27 (show (A.cmp .gtr 0 0) = false from by subst hA; rfl)
                ·
                 refine gk (gs (gs (gr (ra hA 2 (by cbv) ?_))))
                 refine ops_split 95 rfl (fun c28 => ?_) (fun c28 => ?_)
                 ·
                  exact no_t c28 (show (A.cmp .eql 1 6) = false from by subst hA; rfl)
                 ·
                  refine ra hA 3 (by cbv) ?_
                  refine ops_split 98 rfl (fun c29 => ?_) (fun c29 => ?_)
                  ·
                   exact no_t c29 (show (A.cmp .eql 1 4) = false from by subst hA; rfl)
                  ·
                   refine ra hA 5 (by cbv) (od ?_)
                   refine go_cond rfl (fun c30 => ?_) (fun c30 => ?_)
                   ·
                    exact no_t c30 (show false = false from by rfl)
                   ·
                    refine gk (gs (gs (gr (ra hA 1 (by cbv) (od ?_)))))
                    refine go_block ?_
                    refine go_loopE (fun σ m => σ = (S134_1 0 1 u (ByteArray.mk #[105, 110, 98, 111, 120]) ByteArray.empty) ∧ (True) ∧ m = 0) _ [] [1, 6] [1] (S134_1 0 1 u (ByteArray.mk #[105, 110, 98, 111, 120]) ByteArray.empty) rfl (by cbv) ⟨rfl, ?_, rfl⟩ (fun σ m hI => ?_)
                    ·
                     exact trivial
                    obtain ⟨rfl, _, rfl⟩ := hI
                    refine gs (gs (gr (ra hA 5 (by cbv) (od ?_))))
                    refine go_cond rfl (fun c31 => ?_) (fun c31 => ?_)
                    ·
                     exact no_t c31 (show (A.cmp .lss 0 0) = false from by subst hA; rfl)
                    ·
                     refine go_exit ⟨fun _ => ?_, fun h => absurd rfl h⟩
                     refine gs (gr (ra hA 2 (by cbv) ?_))
                     have m2 : Real Try.prog 95 [.int .i64 0, .int .i64 0, .int .i64 7] (.bool true) := by exact r_spec_l01In A hA 0 0 7
                     refine ops_callV rfl rfl (by cbv) (by cbv) m2 (.inr rfl) (by cbv) ?_
                     refine ra hA 7 (by cbv) ?_
                     refine ops_split 145 rfl (fun c34 => ?_) (fun c34 => ?_)
                     ·
                      refine ra hA 6 (by cbv) (od ?_)
                      refine go_ret ⟨_, by cbv, ?_⟩
                      show _ = (PV.bool (A.cmp .leq 0 8))
                      refine congrArg PV.bool ?_
                      subst l7 l2
                      subst hA
                      simp [okU, inboxT, std, pvEqL, pvEq, (show ByteArray.empty = ByteArray.mk #[] from rfl), c3, c9, c14, c15, c16, c17, c18, c19, c20, c21, c22, c23, c24, c25, c26, c28, c29, c34]
                     ·
                      exact no_f c34 (show (A.cmp .leq (A.slen ByteArray.empty) 100) = true from by subst hA; rfl)
               ·
                exact no_f c26 (show (A.cmp .neq 1 5) = true from by subst hA; rfl)
             ·
              exact absurd (show (A.bnot (A.cmp .eql 1 3)) = false from c24) (by rw [show (A.bnot (A.cmp .eql 1 3)) = true from by rw [show (A.cmp .eql 1 3) = false from by subst hA; rfl]; subst hA; rfl]; decide)
           ·
            exact absurd (show (A.bnot (A.cmp .eql 1 4)) = false from c22) (by rw [show (A.bnot (A.cmp .eql 1 4)) = true from by rw [show (A.cmp .eql 1 4) = false from by subst hA; rfl]; subst hA; rfl]; decide)
          ·
           exact absurd (show (A.bnot (A.cmp .eql 1 3)) = false from c21) (by rw [show (A.bnot (A.cmp .eql 1 3)) = true from by rw [show (A.cmp .eql 1 3) = false from by subst hA; rfl]; subst hA; rfl]; decide)
        ·
         exact absurd (show (A.bnot (A.cmp .eql 1 4)) = false from c19) (by rw [show (A.bnot (A.cmp .eql 1 4)) = true from by rw [show (A.cmp .eql 1 4) = false from by subst hA; rfl]; subst hA; rfl]; decide)
       ·
        exact absurd (show (A.bnot (A.cmp .eql 1 6)) = false from c18) (by rw [show (A.bnot (A.cmp .eql 1 6)) = true from by rw [show (A.cmp .eql 1 6) = false from by subst hA; rfl]; subst hA; rfl]; decide)
    ·
     exact absurd (show (A.bnot (A.cmp .eql 1 6)) = false from c15) (by rw [show (A.bnot (A.cmp .eql 1 6)) = true from by rw [show (A.cmp .eql 1 6) = false from by subst hA; rfl]; subst hA; rfl]; decide)
theorem r_spec_RecOk (A : Alg) (hA : A = std)  (nv : Int) (u : ByteArray) (zu : (ByteArray.size u : Int) ≤ 4611686018427387904) : Real Try.prog 152 [.agg [.int .i64 1, .int .i64 nv, .int .i64 0, .int .i64 1, .int .i64 0, .str u, .str (ByteArray.mk #[105, 110, 98, 111, 120]), .str ByteArray.empty]] (.bool (recB nv u)) := by
 refine real_args (args' := [.agg [.int .i64 1, .int .i64 nv, .int .i64 0, .int .i64 1, .int .i64 0, .str u, .str (ByteArray.mk #[105, 110, 98, 111, 120]), .str ByteArray.empty]]) (by rfl) ?_
 have zi : (ByteArray.size (ByteArray.mk #[105, 110, 98, 111, 120]) : Int) ≤ 4611686018427387904 := by decide
 refine real tyOk Try.func152 (by kernel_rfl) (afun_of rfl ?_)
 refine gs (gr (ra hA 2 (by cbv) (od ?_)))
 refine gs (gs (gr (ra hA 2 (by cbv) ?_)))
 have hc2 : Real Try.prog 95 [.int .i64 1, .int .i64 1, .int .i64 5] (.bool true) := by exact r_spec_l01In A hA 1 1 5
 refine ops_callV rfl rfl (by cbv) (by cbv) hc2 (.inr rfl) (by cbv) ?_
 refine ra hA 2 (by cbv) ?_
 refine ops_split 10 rfl (fun c3 => ?_) (fun c3 => ?_)
 ·
  exact no_t c3 (show (A.bnot true) = false from by subst hA; rfl)
 ·
  refine ra hA 2 (by cbv) ?_
  obtain ⟨k6, k4, hc5⟩ : ∃ (k6 : Bool), k6 = (inR nv 1 9999) ∧ Real Try.prog 95 [.int .i64 nv, .int .i64 1, .int .i64 9999] (.bool k6) := ⟨_, rfl, by exact r_spec_l01In A hA nv 1 9999 ⟩
  refine ops_callG rfl rfl rfl rfl (by cbv) (by cbv) hc5 (.inr rfl) (by cbv) ?_
  refine ra hA 2 (by cbv) (od ?_)
  refine go_cond rfl (fun c6 => ?_) (fun c6 => ?_)
  ·
   have c7 : k6 = false := bnot_t hA c6
   refine gs (gr (ra hA 1 (by cbv) (od ?_)))
   refine go_ret ⟨_, by cbv, ?_⟩
   show _ = (PV.bool false)
   refine congrArg PV.bool ?_
   subst k4
   subst hA
   simp [recB, inboxT, std, pvEqL, pvEq, (show ByteArray.empty = ByteArray.mk #[] from rfl), c3, c7]
  ·
   have c8 : k6 = true := bnot_f hA c6
   refine gk (gs (gr (ra hA 4 (by cbv) (od ?_))))
   refine gs (gr (ra hA 4 (by cbv) ?_))
   refine ops_split 22 rfl (fun c9 => ?_) (fun c9 => ?_)
   ·
    exact no_t c9 (show (A.cmp .eql 1 3) = false from by subst hA; rfl)
   ·
    refine ra hA 5 (by cbv) ?_
    refine ops_split 27 rfl (fun c10 => ?_) (fun c10 => ?_)
    ·
     exact no_t c10 (show (A.cmp .eql 1 4) = false from by subst hA; rfl)
    ·
     refine ra hA 5 (by cbv) (od ?_)
     refine gs (gr (ra hA 4 (by cbv) ?_))
     refine ops_split 35 rfl (fun c11 => ?_) (fun c11 => ?_)
     ·
      exact no_t c11 (show (A.cmp .eql 1 3) = false from by subst hA; rfl)
     ·
      refine ra hA 5 (by cbv) (od ?_)
      refine gs (gs (gr (ra hA 2 (by cbv) ?_)))
      refine ops_split 41 rfl (fun c12 => ?_) (fun c12 => ?_)
      ·
       refine ra hA 2 (by cbv) ?_
       obtain ⟨k0, k7, l6⟩ : ∃ (k0 : Bool), k0 = (wordOk u) ∧ Real Try.prog 97 [.str u] (.bool k0) := ⟨_, rfl, by exact r_spec_WordOk A hA u (by first | assumption | omega)⟩
       refine ops_callG rfl rfl rfl rfl (by cbv) (by cbv) l6 (.inr rfl) (by cbv) ?_
       refine ra hA 2 (by cbv) ?_
       refine ops_split 46 rfl (fun c15 => ?_) (fun c15 => ?_)
       ·
        have c16 : k0 = false := bnot_t hA c15
        refine ra hA 31 (by cbv) (od ?_)
        refine go_cond rfl (fun c17 => ?_) (fun c17 => ?_)
        ·
         refine gs (gr (ra hA 1 (by cbv) (od ?_)))
         refine go_ret ⟨_, by cbv, ?_⟩
         show _ = (PV.bool false)
         refine congrArg PV.bool ?_
         subst k7 k4
         subst hA
         simp [recB, inboxT, std, pvEqL, pvEq, (show ByteArray.empty = ByteArray.mk #[] from rfl), c3, c8, c9, c10, c11, c12, c16]
        ·
         exact no_f c17 (show true = true from by rfl)
       ·
        have c18 : k0 = true := bnot_f hA c15
        refine ra hA 2 (by cbv) ?_
        obtain ⟨k2, l9, m8⟩ : ∃ (k2 : Bool), k2 = (wordOk (ByteArray.mk #[105, 110, 98, 111, 120])) ∧ Real Try.prog 97 [.str (ByteArray.mk #[105, 110, 98, 111, 120])] (.bool k2) := ⟨_, rfl, by exact r_spec_WordOk A hA (ByteArray.mk #[105, 110, 98, 111, 120]) (by first | assumption | omega)⟩
        refine ops_callG rfl rfl rfl rfl (by cbv) (by cbv) m8 (.inr rfl) (by cbv) ?_
        refine ra hA 3 (by cbv) ?_
        refine ops_split 52 rfl (fun c21 => ?_) (fun c21 => ?_)
        ·
         have c22 : k2 = false := bnot_t hA c21
         refine ra hA 25 (by cbv) (od ?_)
         refine go_cond rfl (fun c23 => ?_) (fun c23 => ?_)
         ·
          refine gs (gr (ra hA 1 (by cbv) (od ?_)))
          refine go_ret ⟨_, by cbv, ?_⟩
          show _ = (PV.bool false)
          refine congrArg PV.bool ?_
          subst l9 k7 k4
          subst hA
          simp [recB, inboxT, std, pvEqL, pvEq, (show ByteArray.empty = ByteArray.mk #[] from rfl), c3, c8, c9, c10, c11, c12, c18, c22]
         ·
          exact no_f c23 (show true = true from by rfl)
        ·
         have c24 : k2 = true := bnot_f hA c21
         refine ra hA 2 (by cbv) ?_
         have m4 : Real Try.prog 95 [.int .i64 1, .int .i64 1, .int .i64 10000] (.bool true) := by exact r_spec_l01In A hA 1 1 10000
         refine ops_callG rfl rfl rfl rfl (by cbv) (by cbv) m4 (.inr rfl) (by cbv) ?_
         refine ra hA 4 (by cbv) ?_
         refine ops_split 59 rfl (fun c27 => ?_) (fun c27 => ?_)
         ·
          exact no_t c27 (show (A.bnot true) = false from by subst hA; rfl)
         ·
          refine ra hA 3 (by cbv) ?_
          refine ops_split 62 rfl (fun c28 => ?_) (fun c28 => ?_)
          ·
           exact absurd (show (A.bnot (A.cmp .eql 1 1)) = true from c28) (by rw [show (A.bnot (A.cmp .eql 1 1)) = false from by rw [show (A.cmp .eql 1 1) = true from by subst hA; rfl]; subst hA; rfl]; decide)
          ·
           refine ra hA 15 (by cbv) (od ?_)
           refine go_cond rfl (fun c29 => ?_) (fun c29 => ?_)
           ·
            exact no_t c29 (show false = false from by rfl)
           ·
            refine gk (gs (gs (gr (ra hA 2 (by cbv) ?_))))
            refine ops_split 79 rfl (fun c30 => ?_) (fun c30 => ?_)
            ·
             exact no_t c30 (show (A.cmp .eql 1 5) = false from by subst hA; rfl)
            ·
             refine ra hA 9 (by cbv) ?_
             refine ops_split 88 rfl (fun c31 => ?_) (fun c31 => ?_)
             ·
              refine ra hA 5 (by cbv) (od ?_)
              refine go_cond rfl (fun c32 => ?_) (fun c32 => ?_)
              ·
               exact no_t c32 (show (A.cmp .neq 0 0) = false from by subst hA; rfl)
              ·
               refine gk (gs (gs (gr (ra hA 2 (by cbv) ?_))))
               refine ops_split 95 rfl (fun c33 => ?_) (fun c33 => ?_)
               ·
                exact no_t c33 (show (A.cmp .eql 1 4) = false from by subst hA; rfl)
               ·
                refine ra hA 9 (by cbv) ?_
                refine ops_split 104 rfl (fun c34 => ?_) (fun c34 => ?_)
                ·
                 refine ra hA 5 (by cbv) (od ?_)
                 refine go_cond rfl (fun c35 => ?_) (fun c35 => ?_)
                 ·
                  exact no_t c35 (show (A.cmp .neq 0 0) = false from by subst hA; rfl)
                 ·
                  refine gk (gs (gs (gr (ra hA 3 (by cbv) (od ?_)))))
                  refine go_cond rfl (fun c36 => ?_) (fun c36 => ?_)
                  ·
                   exact no_t c36 (show (A.cmp .eql 1 3) = false from by subst hA; rfl)
                  ·
                   refine gk (gs (gr (ra hA 4 (by cbv) (od ?_))))
                   refine go_ret ⟨_, by cbv, ?_⟩
                   show _ = (PV.bool (A.scmp .eql ByteArray.empty (ByteArray.mk #[])))
                   refine congrArg PV.bool ?_
                   subst l9 k7 k4
                   subst hA
                   simp [recB, inboxT, std, pvEqL, pvEq, (show ByteArray.empty = ByteArray.mk #[] from rfl), c3, c8, c9, c10, c11, c12, c18, c24, c27, c28, c30, c31, c33, c34]
                ·
                 exact absurd (show (A.bnot (A.cmp .eql 1 4)) = false from c34) (by rw [show (A.bnot (A.cmp .eql 1 4)) = true from by rw [show (A.cmp .eql 1 4) = false from by subst hA; rfl]; subst hA; rfl]; decide)
             ·
              exact absurd (show (A.bnot (A.cmp .eql 1 5)) = false from c31) (by rw [show (A.bnot (A.cmp .eql 1 5)) = true from by rw [show (A.cmp .eql 1 5) = false from by subst hA; rfl]; subst hA; rfl]; decide)
      ·
       exact no_f c12 (show (A.cmp .eql 1 1) = true from by subst hA; rfl)
theorem r_spec_Fitting (A : Alg) (hA : A = std) (s : GState) (nv : Int) (u : ByteArray) (zu : (ByteArray.size u : Int) ≤ 4611686018427387904) (hz : ∀ q ∈ zsState s, q ≤ 1048576) : Real Try.prog 136 [.agg (eState s), .int .i64 nv, .agg [.int .i64 1, .int .i64 nv, .int .i64 0, .int .i64 1, .int .i64 0, .str u, .str (ByteArray.mk #[105, 110, 98, 111, 120]), .str ByteArray.empty]] (.bool (fitB s.Boxes nv u)) := by
 obtain ⟨a0⟩ := s
 obtain ⟨f6, b3⟩ := nm (a0.map eBox)
 have e0 := rlen_map hA b3
 refine real_args (args' := [.agg [.sl 5 f6], .int .i64 nv, .agg [.int .i64 1, .int .i64 nv, .int .i64 0, .int .i64 1, .int .i64 0, .str u, .str (ByteArray.mk #[105, 110, 98, 111, 120]), .str ByteArray.empty]]) (by subst b3; rfl) ?_
 have zi : (ByteArray.size (ByteArray.mk #[105, 110, 98, 111, 120]) : Int) ≤ 4611686018427387904 := by decide
 have k3 : ∀ q ∈ zsBoxS a0, q ≤ 1048576 := fun q hq => hz q (by simp only [zsState, List.mem_append]; simp only [hq, true_or, or_true])
 have m1 : List.length a0 ≤ 1048576 := k3 _ (by simp [zsBoxS])
 refine real tyOk Try.func136 (by kernel_rfl) (afun_of rfl ?_)
 refine gs (gr (ra hA 3 (by cbv) (od ?_)))
 refine gs (gs (gr (ra hA 1 (by cbv) ?_)))
 obtain ⟨j0, j8, hc2⟩ : ∃ (j0 : Bool), j0 = (recB nv u) ∧ Real Try.prog 152 [.agg [.int .i64 1, .int .i64 nv, .int .i64 0, .int .i64 1, .int .i64 0, .str u, .str (ByteArray.mk #[105, 110, 98, 111, 120]), .str ByteArray.empty]] (.bool j0) := ⟨_, rfl, by exact r_spec_RecOk A hA nv u (by assumption)⟩
 refine ops_callV rfl rfl (by cbv) (by cbv) hc2 (.inr rfl) (by cbv) ?_
 refine ra hA 1 (by cbv) (od ?_)
 refine go_cond rfl (fun c3 => ?_) (fun c3 => ?_)
 ·
  have c4 : j0 = false := bnot_t hA c3
  refine gs (gr (ra hA 1 (by cbv) (od ?_)))
  refine go_ret ⟨_, by cbv, ?_⟩
  show _ = (PV.bool false)
  refine congrArg PV.bool ?_
  try simp only [slen_eq hA, e0] at *
  subst j8
  subst hA
  simp [fitB, inboxT, std, c4]
 ·
  have c5 : j0 = true := bnot_f hA c3
  refine gk (gs (gs (gr (ra hA 3 (by cbv) (od ?_)))))
  refine go_cond rfl (fun c6 => ?_) (fun c6 => ?_)
  ·
   refine gs (gr (ra hA 5 (by cbv) ?_))
   obtain ⟨b2, b5, b6, b7, b1, d7, d5, e1, e2, e4, a5, j7, hc8⟩ : ∃ (b2 : Int) (b5 : ByteArray) (b6 : ByteArray) (b7 : Int) (b1 : RR) (d7 : Bool), b2 = ((getB a0 u (ByteArray.mk #[105, 110, 98, 111, 120])).Valid) ∧ b5 = ((getB a0 u (ByteArray.mk #[105, 110, 98, 111, 120])).User) ∧ b6 = ((getB a0 u (ByteArray.mk #[105, 110, 98, 111, 120])).Name) ∧ b7 = ((getB a0 u (ByteArray.mk #[105, 110, 98, 111, 120])).Next) ∧ b1 = List.map eoMail ((getB a0 u (ByteArray.mk #[105, 110, 98, 111, 120])).Mails) ∧ d7 = (hasB a0 u (ByteArray.mk #[105, 110, 98, 111, 120])) ∧ Real Try.prog 71 [.agg [.sl 5 f6], .str u, .str (ByteArray.mk #[105, 110, 98, 111, 120])] (.tup [.agg [.int .i64 b2, .str b5, .str b6, .int .i64 b7, .ow 3 b1], .bool d7]) := ⟨_, _, _, _, _, _, rfl, rfl, rfl, rfl, rfl, rfl, by subst b3; exact r_spec_BoxOf A hA (⟨a0⟩ : GState) u (ByteArray.mk #[105, 110, 98, 111, 120]) (by assumption)⟩
   have d9 := rlen_map hA a5
   refine ops_callV rfl rfl (by cbv) (by cbv) hc8 (.inr rfl) (by cbv) ?_
   refine ra hA 6 (by cbv) (od ?_)
   refine gs (gr (ra hA 5 (by cbv) ?_))
   refine ops_split 30 rfl (fun c9 => ?_) (fun c9 => ?_)
   ·
    refine ra hA 5 (by cbv) ?_
    refine ops_split 35 rfl (fun c10 => ?_) (fun c10 => ?_)
    ·
     refine ra hA 4 (by cbv) ?_
     refine ops_split 39 rfl (fun c11 => ?_) (fun c11 => ?_)
     ·
      have c12 : d7 = false := bnot_t hA c11
      refine ra hA 3 (by cbv) ?_
      obtain ⟨i9, j9, l6⟩ : ∃ (i9 : RR), i9 = List.map eString (namesB a0 u) ∧ Real Try.prog 153 [.agg [.sl 5 f6], .str u] (.ow 1 i9) := ⟨_, rfl, by subst b3; exact r_spec_BoxesOf A hA (⟨a0⟩ : GState) u (by assumption)⟩
      have k8 := rlen_map hA j9
      refine ops_callG rfl rfl rfl rfl (by cbv) (by cbv) l6 (.inr rfl) (by cbv) ?_
      refine ra hA 4 (by cbv) (od ?_)
      refine go_ret ⟨_, by cbv, ?_⟩
      show _ = (PV.bool (A.cmp .lss (A.rlen i9) 3))
      refine congrArg PV.bool ?_
      try simp only [slen_eq hA, e0, d9, k8] at *
      subst j9 j7 a5 e4 e2 e1 d5 j8
      subst hA
      simp [fitB, inboxT, std, c5, c9, c10, c12]
     ·
      have c15 : d7 = true := bnot_f hA c11
      refine ra hA 8 (by cbv) (od ?_)
      refine go_ret ⟨_, by cbv, ?_⟩
      show _ = (PV.bool false)
      refine congrArg PV.bool ?_
      try simp only [slen_eq hA, e0, d9] at *
      subst j7 a5 e4 e2 e1 d5 j8
      subst hA
      simp [fitB, inboxT, std, c5, c9, c10, c15]
    ·
     exact no_f c10 (show (A.cmp .eql 1 1) = true from by subst hA; rfl)
   ·
    exact no_f c9 (show (A.cmp .eql nv nv) = true from by subst hA; simp [std])
  ·
   exact no_f c6 (show (A.cmp .eql 1 1) = true from by subst hA; rfl)
end Go.Av

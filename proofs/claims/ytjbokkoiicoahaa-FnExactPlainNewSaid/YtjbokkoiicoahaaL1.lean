/- Walks: the law of PlainNew. -/
import Derived.Test.YtjbokkoiicoahaaB5
import Derived.Test.YtjbokkoiicoahaaV1
import Derived.Test.YtjbokkoiicoahaaV2
import Derived.Test.YtjbokkoiicoahaaV3
import Derived.Test.YtjbokkoiicoahaaM3
import Derived.Test.YtjbokkoiicoahaaH1
namespace Go.Av
open Go Go.Proofs
set_option maxRecDepth 100000
set_option maxHeartbeats 4000000
set_option linter.unusedVariables false
set_option linter.unusedSimpArgs false
theorem chain_sum : ∀ {l : List Nat} {n : Int}, 0 ≤ chain n l → (l.sum : Int) ≤ n
  | [], n, h => by simpa [chain] using h
  | k :: l, n, h => by
    rw [chain_cons] at h
    split at h
    · omega
    · have := chain_sum h; simp only [List.sum_cons]; omega
theorem plain_inv : ∀ (us : List ByteArray) (L : List GBox) (nv : Int) (L' : List GBox) (nv' : Int), plainGo L nv us = some (L', nv') → okL L nv → L.length + us.length ≤ 10 → cnBoxS L ≤ 10 * L.length → (∀ q ∈ zsState (⟨L'⟩ : GState), q ≤ 1048576) ∧ cnBoxS L' ≤ 100
  | [], L, nv, L', nv', h, ho, hl, hc => by
    simp only [plainGo, Option.some.injEq, Prod.mk.injEq] at h
    obtain ⟨rfl, rfl⟩ := h
    refine ⟨ho.2, ?_⟩
    simp only [List.length_nil] at hl
    omega
  | u :: us, L, nv, L', nv', h, ho, hl, hc => by
    simp only [List.length_cons] at hl
    simp only [plainGo] at h
    split at h
    · exact plain_inv us L nv L' nv' h ho (by omega) hc
    · split at h
      · rename_i hm
        refine plain_inv us _ _ L' nv' h (okL_step ho (by omega) hm) (by simp only [List.length_append, List.length_cons, List.length_nil]; omega) ?_
        rw [cnBoxS_app, cnBoxS_one]
        have : ceBox (nBox nv u) = 4 := rfl
        simp only [List.length_append, List.length_cons, List.length_nil]
        omega
      · cases h
theorem plain_all (us : List ByteArray) : (∀ q ∈ zsState (plainP us).State, q ≤ 1048576) ∧ cnBoxS (plainP us).State.Boxes ≤ 100 ∧ (plainP us).Sessions = [] := by
  cases h : pnR us with
  | none =>
    rw [(plain_none h).1]
    exact ⟨(okL_nil 0).2, by simp [cnBoxS], rfl⟩
  | some p =>
    obtain ⟨L, nv⟩ := p
    rw [(plain_some h).1]
    unfold pnR at h
    split at h
    · have := plain_inv us [] 1 L nv h (okL_nil 1) (by simp only [List.length_nil]; omega) (by simp [cnBoxS])
      exact ⟨this.1, this.2, rfl⟩
    · cases h
theorem zs_plain (us : List ByteArray) (n : Int) : ∀ k ∈ zsPlain ⟨⟨(plainP us).State.Boxes⟩, n, (plainP us).Sessions⟩, (k : Int) ≤ 4611686018427387904 := by
  intro k hk
  have h := plain_all us
  rw [h.2.2] at hk
  simp only [zsPlain, List.mem_append, List.not_mem_nil, or_false] at hk
  rcases hk with hk | hk
  · have := h.1 k hk; omega
  · simp [zsSessionS] at hk; omega
theorem r_laws_FnExactPlainNew (A : Alg) (hA : A = std) (aUsers : List ByteArray) (haUsers : ∀ k ∈ zsStringS aUsers, (k : Int) ≤ 9223372036854775807) : Real Try.prog 7 [.sl 1 (List.map eString aUsers)] (.bool true) := by
 obtain ⟨b6, b3⟩ := nm (aUsers.map eString)
 have e7 := rlen_map hA b3
 refine real_args (args' := [.sl 1 b6]) (by subst b3; rfl) ?_
 refine real tyOk Try.func7 (by kernel_rfl) (afun_of rfl ?_)
 refine gs (gr (ra hA 1 (by cbv) (od ?_)))
 refine gs (gr (ra hA 1 (by cbv) (od ?_)))
 refine gs (gr (ra hA 2 (by cbv) ?_))
 obtain ⟨b7, c7, hc2⟩ : ∃ (b7 : Int), b7 = (chain 1048576 (zsStringS aUsers)) ∧ Real Try.prog 30 [.sl 1 b6, .int .i64 1048576] (.int .i64 b7) := ⟨_, rfl, by subst b3; exact r_laws_szStringS A hA aUsers 1048576 (by omega) (by omega) haUsers⟩
 refine ops_callV rfl rfl (by cbv) (by cbv) hc2 (.inr rfl) (by cbv) ?_
 have g7 := chain_bd c7 (by omega)
 refine ra hA 1 (by cbv) (od ?_)
 refine gs (gs (gr (ra hA 2 (by cbv) (od ?_))))
 refine go_cond rfl (fun c3 => ?_) (fun c3 => ?_)
 ·
  have ec3 : b7 < 0 := lss_t hA c3
  refine gs (gr (ra hA 1 (by cbv) (od ?_)))
  refine go_ret ⟨_, by cbv, ?_⟩
  show _ = (PV.bool true)
  rfl
 ·
  have ec3 : 0 ≤ b7 := lss_f hA c3
  refine gk (gs ?_)
  have jaUsers : ∀ k ∈ zsStringS aUsers, k ≤ 1048576 := fun k hk => by
   have := chain_all _ _ (show 0 ≤ chain _ _ from c7 ▸ (by omega : (0 : Int) ≤ b7)) k hk
   omega
  have saUsers : ((zsStringS aUsers).sum : Int) ≤ 1048576 := chain_sum (show 0 ≤ chain _ _ from c7 ▸ (by omega : (0 : Int) ≤ b7))
  have iaUsers : ∀ k ∈ zsStringS aUsers, (k : Int) ≤ 4611686018427387904 := fun k hk => by have := jaUsers k hk; omega
  have pa := plain_all aUsers
  have i9 : cnBoxS (plainP aUsers).State.Boxes ≤ 100 := pa.2.1
  have j1 : cnSessionS (plainP aUsers).Sessions = 0 := by rw [pa.2.2]; rfl
  have i7 : cnStringS aUsers ≤ 1048576 := by have := jaUsers (List.length aUsers) (List.mem_cons_self ..); show ((List.length aUsers : Nat) : Int) ≤ _; omega
  refine gr (ra hA 1 (by cbv) ?_)
  obtain ⟨c6, d8, hc5⟩ : ∃ (c6 : RR), c6 = List.map eString aUsers ∧ Real Try.prog 32 [.sl 1 b6] (.ow 1 c6) := ⟨_, rfl, by subst b3; exact r_laws_toStringS A hA aUsers jaUsers⟩
  have g6 := rlen_map hA d8
  refine ops_callV rfl rfl (by cbv) (by cbv) hc5 (.inr rfl) (by cbv) ?_
  obtain ⟨a2, a0, a6, b1, a4, b4, a8, b9, hc7⟩ : ∃ (a2 : RR) (a0 : Int) (a6 : RR) (b1 : Bool), a2 = List.map eoBox (((plainP aUsers).State).Boxes) ∧ a0 = ((plainP aUsers).NextValid) ∧ a6 = List.map eoSession ((plainP aUsers).Sessions) ∧ b1 = (plainB aUsers) ∧ Real Try.prog 31 [.sl 1 (eraseR c6)] (.tup [.agg [.ow 5 a2, .int .i64 a0, .ow 17 a6], .bool b1]) := ⟨_, _, _, _, rfl, rfl, rfl, rfl, by subst d8; simp only [erR_String]; exact r_spec_PlainNew A hA aUsers (by assumption)⟩
  have d5 := rlen_map hA a4
  have d9 := rlen_map hA a8
  refine ops_callV rfl rfl (by cbv) (by cbv) hc7 (.inl (by simp only [fresh, freshL, a4, b4, a8, b9, frR_Box, frR_Session, and_self])) (by cbv) ?_
  refine ra hA 6 (by cbv) (od ?_)
  refine gs (gr (ra hA 1 (by cbv) ?_))
  obtain ⟨b8, c5, hc9⟩ : ∃ (b8 : RR), b8 = List.map eString aUsers ∧ Real Try.prog 32 [.sl 1 b6] (.ow 1 b8) := ⟨_, rfl, by subst b3; exact r_laws_toStringS A hA aUsers jaUsers⟩
  have g9 := rlen_map hA c5
  refine ops_callV rfl rfl (by cbv) (by cbv) hc9 (.inr rfl) (by cbv) ?_
  refine ra hA 1 (by cbv) (od ?_)
  refine gs (gr (ra hA 1 (by cbv) ?_))
  obtain ⟨a1, a5, a3, a7, f4⟩ : ∃ (a1 : RR) (a5 : RR), a1 = List.map eoBox (((plainP aUsers).State).Boxes) ∧ a5 = List.map eoSession ((plainP aUsers).Sessions) ∧ Real Try.prog 33 [.sl 1 (eraseR b8)] (.tup [.agg [.ow 5 a1, .int .i64 a0, .ow 17 a5], .bool b1]) := ⟨_, _, rfl, rfl, by subst b4; subst b9; subst c5; simp only [erR_String]; exact r_impl_PlainNew A hA aUsers (by assumption)⟩
  have d0 := rlen_map hA a3
  have d6 := rlen_map hA a7
  refine ops_callV rfl rfl (by cbv) (by cbv) f4 (.inl (by simp only [fresh, freshL, a3, a7, frR_Box, frR_Session, and_self])) (by cbv) ?_
  refine ra hA 6 (by cbv) (od ?_)
  refine gs (gs (gr (ra hA 2 (by cbv) ?_)))
  have g2 : Real Try.prog 34 [.agg [.sl 5 (eraseR a1), .int .i64 a0, .sl 17 (eraseR a5)], .agg [.sl 5 (eraseR a2), .int .i64 a0, .sl 17 (eraseR a6)]] (.bool true) := by subst a3 a7 a4 a8; simp only [erR_Box, erR_Session]; exact r_laws_eqPlain A hA (⟨⟨((plainP aUsers).State).Boxes⟩, a0, (plainP aUsers).Sessions⟩ : GPlain) (zs_plain aUsers _)
  refine ops_callV rfl rfl (by cbv) (by cbv) g2 (.inl trivial) (by cbv) ?_
  refine ra hA 2 (by cbv) ?_
  refine ops_split 36 rfl (fun c14 => ?_) (fun c14 => ?_)
  ·
   exact no_t c14 (show (A.bnot true) = false from by subst hA; rfl)
  ·
   refine ra hA 4 (by cbv) (od ?_)
   refine go_cond rfl (fun c15 => ?_) (fun c15 => ?_)
   ·
    exact no_t c15 (show (A.bnot (A.beq b1 b1)) = false from by subst hA; simp [std])
   ·
    refine gk (gs (gs (gr (ra hA 2 (by cbv) ?_))))
    obtain ⟨c2, d1, f0⟩ : ∃ (c2 : RR), c2 = List.map eString aUsers ∧ Real Try.prog 32 [.sl 1 b6] (.ow 1 c2) := ⟨_, rfl, by subst b3; exact r_laws_toStringS A hA aUsers jaUsers⟩
    have g4 := rlen_map hA d1
    refine ops_callV rfl rfl (by cbv) (by cbv) f0 (.inr rfl) (by cbv) ?_
    have e9 : Real Try.prog 35 [.sl 1 (eraseR b8), .sl 1 (eraseR c2)] (.bool true) := by subst c5 d1; simp only [erR_String]; exact r_laws_eqStringS A hA aUsers iaUsers
    refine ops_callV rfl rfl (by cbv) (by cbv) e9 (.inl trivial) (by cbv) ?_
    refine ra hA 1 (by cbv) (od ?_)
    refine go_cond rfl (fun c20 => ?_) (fun c20 => ?_)
    ·
     exact no_t c20 (show (A.bnot true) = false from by subst hA; rfl)
    ·
     refine gk (gs (gr (ra hA 1 (by cbv) (od ?_))))
     refine gs (gr (ra hA 2 (by cbv) ?_))
     obtain ⟨d4, m21, e0, i8, e5⟩ : ∃ (d4 : RR) (m21 : Int), d4 = List.map eString (mkStringS 1 aUsers) ∧ m21 = 1 + cnStringS aUsers ∧ RealM Try.prog 36 [.ow 1 b8, .int .i64 1] [.ow 1 d4, .int .i64 1] (.int .i64 m21) := ⟨_, _, rfl, rfl, by subst c5; exact m_laws_markStringS A hA aUsers 1 (by omega) (by omega)⟩
     have g8 := rlen_map hA e0
     have i1 := cnStringS_nn aUsers
     have f9 : 0 ≤ m21 := by omega
     refine ops_callM rfl (by cbv) (by cbv) (by cbv) e5 rfl (by cbv) ?_
     refine ra hA 1 (by cbv) (od ?_)
     refine gs (gs (gr (ra hA 3 (by cbv) ?_)))
     refine ops_split 51 rfl (fun c23 => ?_) (fun c23 => ?_)
     ·
      have e3 : m21 < 0 := lss_t hA c23
      exact absurd e3 (Int.not_lt.2 f9)
     ·
      have e3 : 0 ≤ m21 := lss_f hA c23
      refine ra hA 2 (by cbv) ?_
      have g0 : Real Try.prog 34 [.agg [.sl 5 (eraseR a1), .int .i64 a0, .sl 17 (eraseR a5)], .agg [.sl 5 (eraseR a2), .int .i64 a0, .sl 17 (eraseR a6)]] (.bool true) := by subst a3 a7 a4 a8; simp only [erR_Box, erR_Session]; exact r_laws_eqPlain A hA (⟨⟨((plainP aUsers).State).Boxes⟩, a0, (plainP aUsers).Sessions⟩ : GPlain) (zs_plain aUsers _)
      refine ops_callG rfl rfl rfl rfl (by cbv) (by cbv) g0 (.inl trivial) (by cbv) ?_
      refine ra hA 3 (by cbv) ?_
      refine ops_split 57 rfl (fun c26 => ?_) (fun c26 => ?_)
      ·
       exact no_t c26 (show (A.bnot true) = false from by subst hA; rfl)
      ·
       refine ra hA 4 (by cbv) (od ?_)
       refine go_cond rfl (fun c27 => ?_) (fun c27 => ?_)
       ·
        exact no_t c27 (show (A.bnot (A.beq b1 b1)) = false from by subst hA; simp [std])
       ·
        refine gk (gs (gr (ra hA 1 (by cbv) (od ?_))))
        refine gs (gr (ra hA 2 (by cbv) ?_))
        have i4 : cnPlain (⟨⟨((plainP aUsers).State).Boxes⟩, a0, (plainP aUsers).Sessions⟩ : GPlain) = cnBoxS (((plainP aUsers).State).Boxes) + cnSessionS ((plainP aUsers).Sessions) := rfl
        obtain ⟨c4, c0, m28, c9, c8, e2, e6⟩ : ∃ (c4 : RR) (c0 : RR) (m28 : Int), c4 = List.map eoBox (mkBoxS (1) (((plainP aUsers).State).Boxes)) ∧ c0 = List.map eoSession (mkSessionS (1 + cnBoxS (((plainP aUsers).State).Boxes)) ((plainP aUsers).Sessions)) ∧ m28 = 1 + cnBoxS (((plainP aUsers).State).Boxes) + cnSessionS ((plainP aUsers).Sessions) ∧ RealM Try.prog 37 [.agg [.ow 5 a1, .int .i64 a0, .ow 17 a5], .int .i64 1] [.agg [.ow 5 c4, .int .i64 a0, .ow 17 c0], .int .i64 1] (.int .i64 m28) := ⟨_, _, _, rfl, rfl, rfl, by subst a3 a7; exact m_laws_markPlain A hA (⟨⟨((plainP aUsers).State).Boxes⟩, a0, (plainP aUsers).Sessions⟩ : GPlain) 1 (by omega) (by omega)⟩
        have i0 := rlen_map hA c9
        have g5 := rlen_map hA c8
        have i6 := cnBoxS_nn (((plainP aUsers).State).Boxes)
        have i3 := cnSessionS_nn ((plainP aUsers).Sessions)
        have j0 : 0 ≤ m28 := by omega
        refine ops_callM rfl (by cbv) (by cbv) (by cbv) e6 rfl (by cbv) ?_
        refine ra hA 1 (by cbv) (od ?_)
        refine gs (gr (ra hA 1 (by cbv) (od ?_)))
        refine gs (gr (ra hA 2 (by cbv) ?_))
        have i2 : cnPlain (⟨⟨(((plainP aUsers).State).Boxes)⟩, a0, ((plainP aUsers).Sessions)⟩ : GPlain) = cnBoxS (((plainP aUsers).State).Boxes) + cnSessionS ((plainP aUsers).Sessions) := rfl
        obtain ⟨q31, f8, f6⟩ : ∃ q : Int, q = 1 + cnBoxS (((plainP aUsers).State).Boxes) + cnSessionS ((plainP aUsers).Sessions) ∧ Real Try.prog 38 [.agg [.sl 5 (eraseR c4), .int .i64 a0, .sl 17 (eraseR c0)], .int .i64 1] (.int .i64 q) := ⟨_, rfl, by
         subst c9 c8; simp only [erR_Box, erR_Session]; exact r_laws_heldPlain A hA (⟨⟨(((plainP aUsers).State).Boxes)⟩, a0, ((plainP aUsers).Sessions)⟩ : GPlain) 1 (by omega) (by omega)⟩
        have f3 : 0 ≤ q31 := by omega
        refine ops_callV rfl rfl (by cbv) (by cbv) f6 (.inl trivial) (by cbv) ?_
        refine ra hA 1 (by cbv) (od ?_)
        refine gs (gs (gr (ra hA 2 (by cbv) (od ?_))))
        refine go_cond rfl (fun c33 => ?_) (fun c33 => ?_)
        ·
         have e1 : q31 < 0 := lss_t hA c33
         exact absurd e1 (Int.not_lt.2 f3)
        ·
         have e1 : 0 ≤ q31 := lss_f hA c33
         refine gk (gs (gs (gr (ra hA 3 (by cbv) (od ?_)))))
         refine go_cond rfl (fun c34 => ?_) (fun c34 => ?_)
         ·
          exact no_t c34 (show (A.cmp .neq q31 m28) = false from by subst hA; simp [std, f8, e2])
         ·
          refine gk (gs (gr (ra hA 1 (by cbv) ?_)))
          obtain ⟨c1, d3, g1⟩ : ∃ (c1 : RR), c1 = List.map eString aUsers ∧ Real Try.prog 32 [.sl 1 b6] (.ow 1 c1) := ⟨_, rfl, by subst b3; exact r_laws_toStringS A hA aUsers jaUsers⟩
          have g3 := rlen_map hA d3
          refine ops_callV rfl rfl (by cbv) (by cbv) g1 (.inr rfl) (by cbv) ?_
          obtain ⟨a9, b0, b2, b5, f1⟩ : ∃ (a9 : RR) (b0 : RR), a9 = List.map eoBox (((plainP aUsers).State).Boxes) ∧ b0 = List.map eoSession ((plainP aUsers).Sessions) ∧ Real Try.prog 33 [.sl 1 (eraseR c1)] (.tup [.agg [.ow 5 a9, .int .i64 a0, .ow 17 b0], .bool b1]) := ⟨_, _, rfl, rfl, by subst b4; subst b9; subst d3; simp only [erR_String]; exact r_impl_PlainNew A hA aUsers (by assumption)⟩
          have d2 := rlen_map hA b2
          have d7 := rlen_map hA b5
          refine ops_callV rfl rfl (by cbv) (by cbv) f1 (.inl (by simp only [fresh, freshL, b2, b5, frR_Box, frR_Session, and_self])) (by cbv) ?_
          refine ra hA 6 (by cbv) (od ?_)
          refine gs (gs (gr (ra hA 2 (by cbv) ?_)))
          have f5 : Real Try.prog 34 [.agg [.sl 5 (eraseR a9), .int .i64 a0, .sl 17 (eraseR b0)], .agg [.sl 5 (eraseR a2), .int .i64 a0, .sl 17 (eraseR a6)]] (.bool true) := by subst b2 b5 a4 a8; simp only [erR_Box, erR_Session]; exact r_laws_eqPlain A hA (⟨⟨((plainP aUsers).State).Boxes⟩, a0, (plainP aUsers).Sessions⟩ : GPlain) (zs_plain aUsers _)
          refine ops_callV rfl rfl (by cbv) (by cbv) f5 (.inl trivial) (by cbv) ?_
          refine ra hA 2 (by cbv) ?_
          refine ops_split 83 rfl (fun c41 => ?_) (fun c41 => ?_)
          ·
           exact no_t c41 (show (A.bnot true) = false from by subst hA; rfl)
          ·
           refine ra hA 4 (by cbv) (od ?_)
           refine go_cond rfl (fun c42 => ?_) (fun c42 => ?_)
           ·
            exact no_t c42 (show (A.bnot (A.beq b1 b1)) = false from by subst hA; simp [std])
           ·
            refine gk (gs (gr (ra hA 1 (by cbv) (od ?_))))
            refine gs (gr (ra hA 2 (by cbv) ?_))
            have i5 : cnPlain (⟨⟨(((plainP aUsers).State).Boxes)⟩, a0, ((plainP aUsers).Sessions)⟩ : GPlain) = cnBoxS (((plainP aUsers).State).Boxes) + cnSessionS ((plainP aUsers).Sessions) := rfl
            obtain ⟨q43, f7, f2⟩ : ∃ q : Int, q = 1 + cnBoxS (((plainP aUsers).State).Boxes) + cnSessionS ((plainP aUsers).Sessions) ∧ Real Try.prog 38 [.agg [.sl 5 (eraseR c4), .int .i64 a0, .sl 17 (eraseR c0)], .int .i64 1] (.int .i64 q) := ⟨_, rfl, by
             subst c9 c8; simp only [erR_Box, erR_Session]; exact r_laws_heldPlain A hA (⟨⟨(((plainP aUsers).State).Boxes)⟩, a0, ((plainP aUsers).Sessions)⟩ : GPlain) 1 (by omega) (by omega)⟩
            have e8 : 0 ≤ q43 := by omega
            refine ops_callV rfl rfl (by cbv) (by cbv) f2 (.inl trivial) (by cbv) ?_
            refine ra hA 1 (by cbv) (od ?_)
            refine gs (gs (gr (ra hA 2 (by cbv) (od ?_))))
            refine go_cond rfl (fun c45 => ?_) (fun c45 => ?_)
            ·
             have e4 : q43 < 0 := lss_t hA c45
             exact absurd e4 (Int.not_lt.2 e8)
            ·
             have e4 : 0 ≤ q43 := lss_f hA c45
             refine gk (gs (gs (gr (ra hA 3 (by cbv) (od ?_)))))
             refine go_cond rfl (fun c46 => ?_) (fun c46 => ?_)
             ·
              exact no_t c46 (show (A.cmp .neq q43 m28) = false from by subst hA; simp [std, f7, e2])
             ·
              refine gk (gs (gr (ra hA 1 (by cbv) (od ?_))))
              refine go_ret ⟨_, by cbv, ?_⟩
              show _ = (PV.bool true)
              rfl
end Go.Av

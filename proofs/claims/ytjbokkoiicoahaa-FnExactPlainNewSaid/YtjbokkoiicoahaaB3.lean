/- Walks: what a call that makes a box tells. -/
import Derived.Test.YtjbokkoiicoahaaB2
namespace Go.Av
open Go Go.Proofs
set_option maxRecDepth 100000
set_option maxHeartbeats 4000000
set_option linter.unusedVariables false
set_option linter.unusedSimpArgs false
def modL (xs : List GBox) (nv : Int) (u : ByteArray) : List GBox := if modB xs nv u then xs ++ [nBox nv u] else xs
def modN (xs : List GBox) (nv : Int) (u : ByteArray) : Int := if modB xs nv u then nv + 1 else nv
def modC (xs : List GBox) (nv : Int) (u : ByteArray) : Int := if modB xs nv u then 0 else 1
def runL (xs : List GBox) (nv : Int) (u : ByteArray) : List GBox := if modB xs nv u then xs ++ [nBox nv u] else []
def recL (xs : List GBox) (nv : Int) (u : ByteArray) : List GRec := if modB xs nv u then [recM nv u] else []
theorem fit_has {xs : List GBox} {nv : Int} {u : ByteArray} (h : hasB xs u inboxT = true) : fitB xs nv u = false := by simp [fitB, h]
theorem mod_c {xs : List GBox} {nv : Int} {u : ByteArray} (h : okU u = false) : modB xs nv u = false := by simp [modB, h]
theorem mod_f {xs : List GBox} {nv : Int} {u : ByteArray} (h : fitB xs nv u = false) : modB xs nv u = false := by simp [modB, h]
theorem mod_t {xs : List GBox} {nv : Int} {u : ByteArray} (h : okU u = true) (h2 : fitB xs nv u = true) : modB xs nv u = true := by simp [modB, h, h2]
theorem fix_eoBox (z : GBox) : (eoBox z).map (fixC 3) = eoBox z := by simp [eoBox, fixC]
theorem r_impl_wanted (A : Alg) (hA : A = std) (s : GState) (nv : Int) (u : ByteArray) (zu : (ByteArray.size u : Int) ≤ 4611686018427387904) (hz : ∀ q ∈ zsState s, q ≤ 1048576) : Real Try.prog 139 [.agg (eState s), .int .i64 nv, .agg [.int .i64 1, .str u, .str (ByteArray.mk #[105, 110, 98, 111, 120]), .str ByteArray.empty, .int .i64 0, .zc, .int .i64 0, .str ByteArray.empty]] (.tup [.ow 8 (List.map eRec [recM nv u]), .bool (!hasB s.Boxes u inboxT)]) := by
 obtain ⟨a0⟩ := s
 obtain ⟨a2, a1⟩ := nm (a0.map eBox)
 have c0 := rlen_map hA a1
 refine real_args (args' := [.agg [.sl 5 a2], .int .i64 nv, .agg [.int .i64 1, .str u, .str (ByteArray.mk #[105, 110, 98, 111, 120]), .str ByteArray.empty, .int .i64 0, .zc, .int .i64 0, .str ByteArray.empty]]) (by subst a1; rfl) ?_
 have a6 : ∀ q ∈ zsBoxS a0, q ≤ 1048576 := fun q hq => hz q (by simp only [zsState, List.mem_append]; simp only [hq, true_or, or_true])
 have d7 : List.length a0 ≤ 1048576 := a6 _ (by simp [zsBoxS])
 refine real tyOk Try.func139 (by kernel_rfl) (afun_of rfl ?_)
 refine gs (gr (ra hA 4 (by cbv) (od ?_)))
 refine gs (gr (ra hA 5 (by cbv) ?_))
 obtain ⟨b2, b6, b5, b7, b3, d3, d2, d5, d4, d6, b9, e5, hc2⟩ : ∃ (b2 : Int) (b6 : ByteArray) (b5 : ByteArray) (b7 : Int) (b3 : RR) (d3 : Bool), b2 = ((getB a0 u (ByteArray.mk #[105, 110, 98, 111, 120])).Valid) ∧ b6 = ((getB a0 u (ByteArray.mk #[105, 110, 98, 111, 120])).User) ∧ b5 = ((getB a0 u (ByteArray.mk #[105, 110, 98, 111, 120])).Name) ∧ b7 = ((getB a0 u (ByteArray.mk #[105, 110, 98, 111, 120])).Next) ∧ b3 = List.map eoMail ((getB a0 u (ByteArray.mk #[105, 110, 98, 111, 120])).Mails) ∧ d3 = (hasB a0 u (ByteArray.mk #[105, 110, 98, 111, 120])) ∧ Real Try.prog 155 [.agg [.sl 5 a2], .str u, .str (ByteArray.mk #[105, 110, 98, 111, 120])] (.tup [.agg [.int .i64 b2, .str b6, .str b5, .int .i64 b7, .ow 3 b3], .bool d3]) := ⟨_, _, _, _, _, _, rfl, rfl, rfl, rfl, rfl, rfl, by subst a1; exact r_impl_BoxOf A hA (⟨a0⟩ : GState) u (ByteArray.mk #[105, 110, 98, 111, 120]) (by assumption)⟩
 have e6 := rlen_map hA b9
 refine ops_callV rfl rfl (by cbv) (by cbv) hc2 (.inr rfl) (by cbv) ?_
 refine ra hA 6 (by cbv) (od ?_)
 refine gs (gs (gr (ra hA 3 (by cbv) (od ?_))))
 refine go_cond rfl (fun c3 => ?_) (fun c3 => ?_)
 ·
  refine gs (gr (ra hA 11 (by cbv) (od ?_)))
  refine go_ret ⟨_, by cbv, ?_⟩
  subst e5 b9 d6 d4 d5 d2
  subst hA
  rfl
 ·
  exact no_f c3 (show (A.cmp .eql 1 1) = true from by subst hA; rfl)
theorem r_spec_l15Recs (A : Alg) (hA : A = std) (s : GState) (nv : Int) (u : ByteArray) (zu : (ByteArray.size u : Int) ≤ 4611686018427387904) : Real Try.prog 135 [.agg (eState s), .int .i64 nv, .agg [.int .i64 1, .str u, .str (ByteArray.mk #[105, 110, 98, 111, 120]), .str ByteArray.empty, .int .i64 0, .zc, .int .i64 0, .str ByteArray.empty]] (.tup [.ow 8 (List.map eRec [recM nv u]), .bool true]) := by
 obtain ⟨a0⟩ := s
 obtain ⟨a2, a1⟩ := nm (a0.map eBox)
 have c0 := rlen_map hA a1
 refine real_args (args' := [.agg [.sl 5 a2], .int .i64 nv, .agg [.int .i64 1, .str u, .str (ByteArray.mk #[105, 110, 98, 111, 120]), .str ByteArray.empty, .int .i64 0, .zc, .int .i64 0, .str ByteArray.empty]]) (by subst a1; rfl) ?_
 refine real tyOk Try.func135 (by kernel_rfl) (afun_of rfl ?_)
 refine gs (gr (ra hA 4 (by cbv) (od ?_)))
 refine gs (gs (gr (ra hA 3 (by cbv) (od ?_))))
 refine go_cond rfl (fun c1 => ?_) (fun c1 => ?_)
 ·
  refine gs (gr (ra hA 9 (by cbv) (od ?_)))
  refine go_ret ⟨_, by cbv, ?_⟩
  rfl
 ·
  exact no_f c1 (show (A.cmp .eql 1 1) = true from by subst hA; rfl)
theorem r_Insert_Box (A : Alg) (hA : A = std) (x : List GBox) (n nv : Int) (u : ByteArray) (hn : n = (List.length x : Int)) (hb : List.length x ≤ 1048576) : RealC Try.prog 159 [.ow 5 (List.map eoBox x), .int .i64 n, .sl 5 [[.int .i64 nv, .str u, .str (ByteArray.mk #[105, 110, 98, 111, 120]), .int .i64 1, .zc]]] (.ow 5 (List.map eoBox (x ++ [nBox nv u]))) := by
 obtain ⟨x_r, d8⟩ := nm (x.map eoBox)
 have g1 := rlen_map hA d8
 refine realC_args (args1 := [.ow 5 x_r, .int .i64 n, .sl 5 [[.int .i64 nv, .str u, .str (ByteArray.mk #[105, 110, 98, 111, 120]), .int .i64 1, .zc]]]) (by subst d8; rfl) ?_
 have l1 : A.rlen [[.int .i64 nv, .str u, .str (ByteArray.mk #[105, 110, 98, 111, 120]), .int .i64 1, .zc]] = (1 : Int) := by subst hA; rfl
 refine realC tyOk Try.func159 (by kernel_rfl) (afunC_of rfl (by cbv) (fun hv => ?_))
 refine gs (gr (ra hA 1 (by cbv) (od ?_)))
 refine gs (gr (ra hA 2 (by cbv) ?_))
 refine ops_step rfl rfl (slc_own rfl rfl rfl rfl rfl rfl (by omega) (by rw [d8, List.length_map]; omega) rfl) ?_
 refine od ?_
 refine gs (gr (ra hA 3 (by cbv) (od ?_)))
 refine gs (gs (gr (ra hA 2 (by cbv) (od ?_))))
 refine go_cond rfl (fun c1 => ?_) (fun c1 => ?_)
 ·
  have ec1 : (A.rlen ([[.int .i64 nv, .str u, .str (ByteArray.mk #[105, 110, 98, 111, 120]), .int .i64 1, .zc]])) = 0 := eql_t hA c1
  exact absurd ec1 (by omega)
 ·
  have ec1 : (A.rlen ([[.int .i64 nv, .str u, .str (ByteArray.mk #[105, 110, 98, 111, 120]), .int .i64 1, .zc]])) ≠ 0 := eql_f hA c1
  refine gk (gs (gr (ra hA 3 (by cbv) (od ?_))))
  refine gs (gs (gr (ra hA 3 (by cbv) (od ?_))))
  refine go_cond rfl (fun c2 => ?_) (fun c2 => ?_)
  ·
   have ec2 : n = (A.rlen x_r) := eql_t hA c2
   refine gs (gr (ra hA 2 (by cbv) ?_))
   obtain ⟨r1, hr1⟩ := nm (x_r ++ [[.int .i64 nv, .str u, .str (ByteArray.mk #[105, 110, 98, 111, 120]), .int .i64 1, .zc]] : RR)
   obtain ⟨r2, hr2⟩ := nm (fixR 3 r1 : RR)
   have er2 : r2 = List.map eoBox (x ++ [nBox nv u]) := by
    rw [hr2, hr1]; exact fix_app d8 fix_eoBox rfl
   refine ops_tw [.zrow 1000000000 3] rfl rfl (app_own rfl rfl rfl rfl rfl rfl rfl rfl hr1 (by cbv) (by cbv) (by cbv) rfl (by
    show (List.length x_r + 1) * _ ≤ _
    show (List.length x_r + 1) * 72 ≤ _
    rw [d8, List.length_map]; omega) (by decide) (by decide)) (tweak_zrow rfl hr2.symm) ?_
   refine ra hA 1 (by cbv) (od ?_)
   refine go_ret ⟨_, by cbv, ?_⟩
   show _ = (PV.ow 5 r2)
   rw [er2]
  ·
   have ec2 : n ≠ (A.rlen x_r) := eql_f hA c2
   exact absurd ec2 (by simp only [Decidable.not_not]; omega)
def S141_1 (p0 : Int) (p1 : RR) (p2 : Int) (p3 : Int) (p4 : Int) (p5 : ByteArray) (p6 : ByteArray) (p7 : ByteArray) : St := { sl := [.bad, .bad, .bad, .pt 3 0 0, .pt 4 0 0, .pt 5 0 0, .int .i64 p0, .bad, .bad, .bad, .bad, .bad, .bad, .bad, .bad, .bad, .bad, .bad, .bad, .bad, .bad, .bad, .bad, .bad, .bad, .bad, .bad, .bad, .bad, .bad, .bad, .bad, .bad, .bad, .bad, .bad, .bad, .bad, .bad, .bad, .bad, .bad, .bad, .bad, .bad, .bad, .bad, .bad, .bad, .bad, .bad, .bad, .bad, .bad, .bad, .bad, .bad, .bad, .bad, .bad, .bad, .bad, .bad, .bad, .bad, .bad, .bad, .bad, .bad, .bad, .bad, .bad, .bad, .bad, .bad, .bad, .bad, .bad, .bad], bl := [(5, ⟨.var, 1, [[.own 9]]⟩), (9, ⟨.arr, 5, p1⟩), (4, ⟨.var, 1, [[.zc]]⟩), (3, ⟨.var, 8, [[.int .i64 p2, .int .i64 p3, .int .i64 p4, .int .i64 p2, .int .i64 p4, .str p5, .str p6, .str p7]]⟩)] }
theorem r_impl_told (A : Alg) (hA : A = std) (s : GState) (nv : Int) (u : ByteArray) (hz : ∀ q ∈ zsState s, q ≤ 1048576) (hvs : ∀ b ∈ s.Boxes, b.Valid < nv) : Real Try.prog 141 [.agg (eState s), .agg [.int .i64 1, .int .i64 nv, .int .i64 0, .int .i64 1, .int .i64 0, .str u, .str (ByteArray.mk #[105, 110, 98, 111, 120]), .str ByteArray.empty]] (.agg (eoState ⟨s.Boxes ++ [nBox nv u]⟩)) := by
 obtain ⟨a0⟩ := s
 obtain ⟨a2, a1⟩ := nm (a0.map eBox)
 have c0 := rlen_map hA a1
 refine real_args (args' := [.agg [.sl 5 a2], .agg [.int .i64 1, .int .i64 nv, .int .i64 0, .int .i64 1, .int .i64 0, .str u, .str (ByteArray.mk #[105, 110, 98, 111, 120]), .str ByteArray.empty]]) (by subst a1; rfl) ?_
 have a6 : ∀ q ∈ zsBoxS a0, q ≤ 1048576 := fun q hq => hz q (by simp only [zsState, List.mem_append]; simp only [hq, true_or, or_true])
 have d7 : List.length a0 ≤ 1048576 := a6 _ (by simp [zsBoxS])
 have hvs : ∀ b ∈ a0, b.Valid < nv := hvs
 refine real tyOk Try.func141 (by kernel_rfl) (afun_of rfl ?_)
 refine gs (gr (ra hA 3 (by cbv) (od ?_)))
 refine gs (gr (ra hA 1 (by cbv) ?_))
 obtain ⟨a3, b1, hc2⟩ : ∃ (a3 : RR), a3 = List.map eoBox a0 ∧ Real Try.prog 112 [.agg [.sl 5 a2]] (.agg [.ow 5 a3]) := ⟨_, rfl, by subst a1; exact r_impl_cloneState A hA (⟨a0⟩ : GState) (by assumption)⟩
 have f1 := rlen_map hA b1
 refine ops_callV rfl rfl (by cbv) (by cbv) hc2 (.inr rfl) (by cbv) ?_
 refine ra hA 2 (by cbv) (od ?_)
 refine gs (gs (gr (ra hA 3 (by cbv) (od ?_))))
 refine go_cond rfl (fun c3 => ?_) (fun c3 => ?_)
 ·
  refine gs (gr (ra hA 1 (by cbv) (od ?_)))
  refine gs ?_
  refine go_block ?_
  refine go_loopE (fun σ m => ∃ (i : Nat) (n : Int), σ = (S141_1 n a3 1 nv 0 u (ByteArray.mk #[105, 110, 98, 111, 120]) ByteArray.empty) ∧ (n = (i : Int) ∧ i ≤ List.length a0) ∧ m = List.length a0 - i) _ [] [3, 4, 5, 6] [5, 9, 4, 3] (S141_1 0 a3 1 nv 0 u (ByteArray.mk #[105, 110, 98, 111, 120]) ByteArray.empty) rfl (by cbv) ⟨0, 0, rfl, ?_, rfl⟩ (fun σ m hI => ?_)
  ·
   exact ⟨rfl, Nat.zero_le _⟩
  obtain ⟨i, n, rfl, ⟨hn, hi⟩, rfl⟩ := hI
  refine gs (gs ?_)
  refine go_draw (by cbv) ?_
  refine rd hA 6 (by cbv) ?_
  refine dops_split 18 rfl (fun c4 => ?_) (fun c4 => ?_)
  ·
   have ec4 : n < (A.rlen a3) := lss_t hA c4
   refine rd hA 3 (by cbv) ?_
   have f6 : (0 : Int) ≤ n := by
    omega
   have f9 : (Int.toNat n) < List.length a0 := by
    omega
   obtain ⟨x5, hx5⟩ : ∃ x, (a0)[(Int.toNat n)]? = some x := ⟨_, List.getElem?_eq_getElem f9⟩
   have e9 := List.mem_of_getElem? hx5
   obtain ⟨b4, e1, d9, e0, d0⟩ := x5
   obtain ⟨e2, c9⟩ := nm (d0.map eoMail)
   have f0 := rlen_map hA c9
   have f4 : a3[(Int.toNat n)]? = some [.int .i64 b4, .str e1, .str d9, .int .i64 e0, .ow 3 e2] := by
    subst c9; exact map_at eoBox b1 hx5
   have e4 := hx5
   rw [hn] at e4
   have e4 : (a0)[i]? = some (⟨b4, e1, d9, e0, d0⟩ : GBox) := e4
   have g3 : List.length d0 ≤ 1048576 := a6 _ (List.mem_cons_of_mem _ (List.mem_flatMap.2 ⟨_, e9, by simp [zsBox, zsMailS]⟩))
   have g4 : b4 < nv := hvs _ e9
   have f3 : n < (List.length a3 : Int) := by
    rw [b1, List.length_map]; omega
   refine dops_stepG rfl rfl rfl rfl rfl (idx_own rfl rfl rfl rfl rfl rfl f6 f3 rfl) ?_
   refine rd hA 1 (by cbv) ?_
   refine dops_stepG rfl rfl rfl rfl rfl (ld_arr rfl rfl rfl rfl f4 rfl) ?_
   refine rd hA 4 (by cbv) (dd_ ?_)
   refine go_cond rfl (fun c7 => ?_) (fun c7 => ?_)
   ·
    have ec7 : b4 < nv := lss_t hA c7
    refine gk ?_
    refine go_block ?_
    refine gr (ra hA 3 (by cbv) (od ?_))
    refine ⟨(S141_1 (A.num .add .i64 n 1) a3 1 nv 0 u (ByteArray.mk #[105, 110, 98, 111, 120]) ByteArray.empty), List.length a0 - (i + 1), ?_, by cbv, i + 1, (A.num .add .i64 n 1), rfl, ?_, rfl⟩
    ·
     omega
    ·
     exact ⟨by rw [add_i64 hA (by omega) (by omega)]; omega, by omega⟩
   ·
    have ec7 : nv ≤ b4 := lss_f hA c7
    exact absurd ec7 (by omega)
  ·
   have ec4 : (A.rlen a3) ≤ n := lss_f hA c4
   refine rd hA 10 (by cbv) (dd_ ?_)
   refine go_cond rfl (fun c8 => ?_) (fun c8 => ?_)
   ·
    exact no_t c8 (show false = false from by rfl)
   ·
    refine go_exit ⟨fun _ => ?_, fun h => absurd rfl h⟩
    refine gs (gr (ra hA 12 (by cbv) ?_))
    refine ops_tw [.frz 43] rfl rfl (by cbv) (by cbv) ?_
    obtain ⟨z9, hz9, f5⟩ : ∃ r : RR, r = List.map eoBox (a0 ++ [nBox nv u]) ∧ RealC Try.prog 159 [.ow 5 a3, .int .i64 n, .sl 5 ([[.int .i64 nv, .str u, .str (ByteArray.mk #[105, 110, 98, 111, 120]), .int .i64 1, .zc]])] (.ow 5 r) := ⟨_, rfl, by rw [b1]; exact r_Insert_Box A hA a0 n nv u (by omega) (by omega)⟩
    have lz9 := rlen_map hA hz9
    refine ops_callC rfl (by cbv) rfl (by cbv) (by cbv) f5 (by cbv) ?_
    refine ra hA 2 (by cbv) (od ?_)
    refine gs (gr (ra hA 2 (by cbv) (od ?_)))
    refine go_ret ⟨_, by cbv, ?_⟩
    show _ = (PV.agg [.ow 5 z9])
    simp only [hz9]
    rfl
 ·
  exact no_f c3 (show (A.cmp .eql 1 1) = true from by subst hA; rfl)
def S109_1 (p0 : Int) (p1 : RR) (p2 : Int) (p3 : Int) (p4 : Int) (p5 : ByteArray) (p6 : ByteArray) (p7 : ByteArray) (p8 : RR) : St := { sl := [.bad, .bad, .pt 2 0 0, .pt 3 0 0, .pt 4 0 0, .pt 5 0 0, .int .i64 p0, .bad, .bad, .bad, .bad, .bad, .bad, .bad, .bad, .bad, .bad, .bad, .bad, .bad, .bad, .bad, .bad, .bad, .bad, .bad, .bad, .bad, .bad, .bad, .bad, .bad, .bad, .bad, .bad, .bad, .bad, .bad, .bad, .bad, .bad, .bad, .bad, .bad, .bad, .bad, .bad, .bad, .bad, .bad, .bad, .bad, .bad, .bad, .bad, .bad, .bad, .bad, .bad, .bad, .bad, .bad, .bad, .bad, .bad, .bad, .bad, .bad, .bad, .bad, .bad, .bad, .bad, .bad, .bad, .bad, .bad, .bad, .bad, .bad, .bad, .bad, .bad, .bad, .bad, .bad, .bad, .bad, .bad, .bad, .bad, .bad, .bad, .bad, .bad, .bad, .bad, .bad, .bad, .bad, .bad, .bad, .bad, .bad, .bad, .bad, .bad, .bad, .bad, .bad, .bad], bl := [(7003, ⟨.arr, 5, p1⟩), (5, ⟨.var, 1, [[.own 7003]]⟩), (4, ⟨.var, 1, [[.zc]]⟩), (3, ⟨.var, 8, [[.int .i64 p2, .int .i64 p3, .int .i64 p4, .int .i64 p2, .int .i64 p4, .str p5, .str p6, .str p7]]⟩), (2, ⟨.var, 1, [[.sl 5 p8]]⟩)] }
theorem r_spec_l15Apply (A : Alg) (hA : A = std) (s : GState) (nv : Int) (u : ByteArray) (hz : ∀ q ∈ zsState s, q ≤ 1048576) (hvs : ∀ b ∈ s.Boxes, b.Valid < nv) : Real Try.prog 109 [.agg (eState s), .agg [.int .i64 1, .int .i64 nv, .int .i64 0, .int .i64 1, .int .i64 0, .str u, .str (ByteArray.mk #[105, 110, 98, 111, 120]), .str ByteArray.empty]] (.agg (eoState ⟨s.Boxes ++ [nBox nv u]⟩)) := by
 obtain ⟨a0⟩ := s
 obtain ⟨a2, a1⟩ := nm (a0.map eBox)
 have c0 := rlen_map hA a1
 refine real_args (args' := [.agg [.sl 5 a2], .agg [.int .i64 1, .int .i64 nv, .int .i64 0, .int .i64 1, .int .i64 0, .str u, .str (ByteArray.mk #[105, 110, 98, 111, 120]), .str ByteArray.empty]]) (by subst a1; rfl) ?_
 have a6 : ∀ q ∈ zsBoxS a0, q ≤ 1048576 := fun q hq => hz q (by simp only [zsState, List.mem_append]; simp only [hq, true_or, or_true])
 have d7 : List.length a0 ≤ 1048576 := a6 _ (by simp [zsBoxS])
 have hvs : ∀ b ∈ a0, b.Valid < nv := hvs
 refine real tyOk Try.func109 (by kernel_rfl) (afun_of rfl ?_)
 refine gs (gr (ra hA 3 (by cbv) (od ?_)))
 refine gs (gr (ra hA 3 (by cbv) (od ?_)))
 refine gs (gs (gr (ra hA 1 (by cbv) (od ?_))))
 refine go_block ?_
 refine go_loopE (fun σ m => ∃ (i : Nat) (R : RR) (n : Int), σ = (S109_1 n R 1 nv 0 u (ByteArray.mk #[105, 110, 98, 111, 120]) ByteArray.empty a2) ∧ (n = (i : Int) ∧ i ≤ List.length a0 ∧ R = List.map eoBox (a0.take i)) ∧ m = List.length a0 - i) _ [.cell 5 0 7003 5] [2, 3, 4, 5, 6] [7003, 5, 4, 3, 2] (S109_1 0 ([]) 1 nv 0 u (ByteArray.mk #[105, 110, 98, 111, 120]) ByteArray.empty a2) rfl (by cbv) ⟨0, [], 0, rfl, ?_, rfl⟩ (fun σ m hI => ?_)
 ·
  exact ⟨rfl, Nat.zero_le _, rfl⟩
 obtain ⟨i, R, n, rfl, ⟨hn, hi, hR⟩, rfl⟩ := hI
 refine gs (gs (gr (ra hA 5 (by cbv) (od ?_))))
 refine go_cond rfl (fun c1 => ?_) (fun c1 => ?_)
 ·
  have ec1 : n < (A.rlen a2) := lss_t hA c1
  refine gk (gs ?_)
  refine go_block ?_
  refine gs (gr (ra hA 3 (by cbv) ?_))
  have f8 : (0 : Int) ≤ n := by
   omega
  have f7 : (Int.toNat n) < List.length a0 := by
   omega
  obtain ⟨x2, hx2⟩ : ∃ x, (a0)[(Int.toNat n)]? = some x := ⟨_, List.getElem?_eq_getElem f7⟩
  have e8 := List.mem_of_getElem? hx2
  obtain ⟨a4, a7, a9, a8, b0⟩ := x2
  obtain ⟨d1, b8⟩ := nm (b0.map eMail)
  have f2 := rlen_map hA b8
  have g0 : a2[(Int.toNat n)]? = some [.int .i64 a4, .str a7, .str a9, .int .i64 a8, .sl 3 d1] := by
   subst b8; exact map_at eBox a1 hx2
  have e3 := hx2
  rw [hn] at e3
  have e3 : (a0)[i]? = some (⟨a4, a7, a9, a8, b0⟩ : GBox) := e3
  have g5 : List.length b0 ≤ 1048576 := a6 _ (List.mem_cons_of_mem _ (List.mem_flatMap.2 ⟨_, e8, by simp [zsBox, zsMailS]⟩))
  have g2 : a4 < nv := hvs _ e8
  refine ops_step rfl rfl (idx_sl rfl rfl rfl rfl rfl f8 rfl g0) ?_
  refine ra hA 1 (by cbv) ?_
  obtain ⟨a5, c6, hc4⟩ : ∃ (a5 : RR), a5 = List.map eoMail b0 ∧ Real Try.prog 106 [.agg [.int .i64 a4, .str a7, .str a9, .int .i64 a8, .sl 3 d1]] (.agg [.int .i64 a4, .str a7, .str a9, .int .i64 a8, .ow 3 a5]) := ⟨_, rfl, by subst b8; exact r_spec_l07Box A hA (⟨a4, a7, a9, a8, b0⟩ : GBox) (by assumption)⟩
  have e7 := rlen_map hA c6
  refine ops_callV rfl rfl (by cbv) (by cbv) hc4 (.inr rfl) (by cbv) ?_
  refine ra hA 2 (by cbv) (od ?_)
  refine gs (gs (gr (ra hA 5 (by cbv) (od ?_))))
  refine go_cond rfl (fun c5 => ?_) (fun c5 => ?_)
  ·
   have ec5 : a4 ≠ nv := neq_t hA c5
   refine gs (gr (ra hA 4 (by cbv) ?_))
   obtain ⟨r6, hr6⟩ := nm (R ++ [[.int .i64 a4, .str a7, .str a9, .int .i64 a8, .ow 3 a5]] : RR)
   have er6 : r6 = List.map eoBox ((a0.take i) ++ ([(⟨a4, a7, a9, a8, b0⟩ : GBox)])) := by rw [hr6]; exact app_eq hR (by simp only [c6]; rfl)
   have lr6 := rlen_map hA er6
   refine ops_step rfl rfl (app_own rfl rfl rfl rfl rfl rfl rfl rfl hr6 (by cbv) (by cbv) (by cbv) rfl (by
    show (List.length R + List.length ([[.int .i64 a4, .str a7, .str a9, .int .i64 a8, .ow 3 a5]])) * _ ≤ _
    show (List.length R + 1) * 72 ≤ _
    rw [hR, List.length_map, List.length_take]
    omega) (by decide) (by decide)) ?_
   refine ra hA 2 (by cbv) (od ?_)
   refine go_exit ⟨fun _ => ?_, fun h => absurd rfl h⟩
   refine gr (ra hA 3 (by cbv) (od ?_))
   refine ⟨(S109_1 (A.num .add .i64 n 1) r6 1 nv 0 u (ByteArray.mk #[105, 110, 98, 111, 120]) ByteArray.empty a2), List.length a0 - (i + 1), ?_, by cbv, i + 1, r6, (A.num .add .i64 n 1), rfl, ?_, rfl⟩
   ·
    omega
   ·
    refine ⟨by rw [add_i64 hA (by omega) (by omega)]; omega, by omega, ?_⟩
    rw [List.take_add_one, e3]
    exact er6
  ·
   have ec5 : a4 = nv := neq_f hA c5
   exact absurd ec5 (by omega)
 ·
  have ec1 : (A.rlen a2) ≤ n := lss_f hA c1
  refine go_exit ⟨fun _ => ?_, fun h => absurd rfl h⟩
  refine gs (gs (gr (ra hA 3 (by cbv) (od ?_))))
  refine go_cond rfl (fun c7 => ?_) (fun c7 => ?_)
  ·
   refine gr (ra hA 8 (by cbv) ?_)
   refine ops_tw [.slotC 106 4 9106 3] rfl rfl (by cbv) (by cbv) ?_
   refine ra hA 1 (by cbv) ?_
   obtain ⟨r8, hr8⟩ := nm (R ++ [[.int .i64 nv, .str u, .str (ByteArray.mk #[105, 110, 98, 111, 120]), .int .i64 1, .ow 3 ([])]] : RR)
   have er8 : r8 = List.map eoBox ((a0.take i) ++ ([(⟨nv, u, (ByteArray.mk #[105, 110, 98, 111, 120]), 1, []⟩ : GBox)])) := by rw [hr8]; exact app_eq hR (by rfl)
   have lr8 := rlen_map hA er8
   refine ops_step rfl rfl (app_own rfl rfl rfl rfl rfl rfl rfl rfl hr8 (by cbv) (by cbv) (by cbv) rfl (by
    show (List.length R + List.length ([[.int .i64 nv, .str u, .str (ByteArray.mk #[105, 110, 98, 111, 120]), .int .i64 1, .ow 3 ([])]])) * _ ≤ _
    show (List.length R + 1) * 72 ≤ _
    rw [hR, List.length_map, List.length_take]
    omega) (by decide) (by decide)) ?_
   refine ra hA 2 (by cbv) (od ?_)
   refine gs (gr (ra hA 2 (by cbv) (od ?_)))
   refine go_ret ⟨_, by cbv, ?_⟩
   show _ = (PV.agg [.ow 5 r8])
   simp only [er8, List.take_of_length_le (show List.length a0 ≤ i by omega)]
   rfl
  ·
   exact no_f c7 (show (A.cmp .eql 1 1) = true from by subst hA; rfl)
end Go.Av

/- Walks: what is held. -/
import Derived.Test.YtjbokkoiicoahaaGreatM3
namespace Go.Av
open Go Go.Proofs
set_option maxRecDepth 100000
set_option maxHeartbeats 4000000
set_option linter.unusedVariables false
set_option linter.unusedSimpArgs false
def S77_1 (p0 : RR) (p1 : Int) (p2 : Int) : St := { sl := [.sl 1 p0, .int .i64 p1, .bad, .bad, .bad, .int .i64 p2, .bad, .bad, .bad, .bad, .bad, .bad, .bad, .bad, .bad, .bad, .bad, .bad, .bad, .bad, .bad, .bad], bl := [] }
theorem r_laws_heldStringS (A : Alg) (hA : A = std) (x : List ByteArray) (k : Int) (h0 : 0 ≤ k) (h1 : k + cnStringS x ≤ 1099511627776) : Real Tryz.prog 77 [.sl 1 (List.map eString (mkStringS k x)), .int .i64 k] (.int .i64 (k + cnStringS x)) := by
 obtain ⟨a_r, b1⟩ := nm (List.map eString (mkStringS k x))
 have l5 : A.rlen a_r = (List.length x : Int) := by rw [rlen_map hA b1, mkStringS_len]
 have h2 : (List.length x : Int) ≤ 1099511627776 := by have := cnStringS_ge x; omega
 refine real_args (args' := [.sl 1 a_r, .int .i64 k]) (by subst b1; rfl) ?_
 refine real tyOk Tryz.func77 (by kernel_rfl) (afun_of rfl ?_)
 refine gs (gr (ra hA 1 (by cbv) (od ?_)))
 refine gs (gs (gr (ra hA 1 (by cbv) (od ?_))))
 refine go_block ?_
 refine go_loopE (fun σ m => ∃ (i : Nat) (n5 : Int) (kk : Int), σ = (S77_1 a_r kk n5) ∧ (n5 = (i : Int) ∧ i ≤ List.length x ∧ kk = k + cnStringS (x.take i)) ∧ m = List.length x - i) _ [] [0, 1, 5] [] (S77_1 a_r k 0) rfl (by cbv) ⟨0, 0, k, rfl, ?_, rfl⟩ (fun σ m hI => ?_)
 ·
  exact ⟨rfl, Nat.zero_le _, by simp [cnStringS]⟩
 obtain ⟨i, n5, kk, rfl, ⟨hn5, hi, hkk⟩, rfl⟩ := hI
 refine gs (gs (gr (ra hA 4 (by cbv) (od ?_))))
 refine go_cond rfl (fun c1 => ?_) (fun c1 => ?_)
 ·
  have ec1 : n5 < (A.rlen a_r) := lss_t hA c1
  refine gk (gs ?_)
  refine go_block ?_
  refine gs (gs ?_)
  have h05 : (0 : Int) ≤ n5 := by omega
  have hlt : i < List.length x := by omega
  obtain ⟨y, hyi⟩ : ∃ y, x[i]? = some y := ⟨_, List.getElem?_eq_getElem hlt⟩
  have cat := cnStringS_at hyi
  have cle := cnStringS_le x (i + 1)
  have cnn := cnStringS_nn (x.take i)
  have hro := mkStringS_get k hyi
  rw [← hkk] at hro
  have cce : ceString y = 1 := rfl
  obtain ⟨r1, hr1, e1⟩ : ∃ r : Int, r = 0 ∧ 0 ≤ r := ⟨0, rfl, by decide⟩
  obtain ⟨r0, hr0, e0⟩ : ∃ r : Int, r = 1 + r1 ∧ 0 ≤ r := ⟨_, rfl, nn_add (by decide) e1⟩
  have p0 : 0 ≤ kk := by clear hr1 e1 hr0 e0; omega
  have hrce : r0 = ceString y := by subst hr1 hr0; rw [cce]; omega
  have q0 : kk + r0 ≤ 1099511627776 ∧ kk + r0 = kk + r0 := ⟨by clear hr1 e1 hr0 e0; omega, rfl⟩
  have l7 : n5 < (List.length x : Int) := by clear hr1 e1 hr0 e0; omega
  have hi1 : i + 1 ≤ List.length x := by clear hr1 e1 hr0 e0; omega
  have f4 : A.num .add .i64 n5 1 = ((i + 1 : Nat) : Int) := by
   clear hr1 e1 hr0 e0; rw [add_i64 hA (by omega) (by omega)]; omega
  have hdec : List.length x - (i + 1) < List.length x - i := by clear hr1 e1 hr0 e0; omega
  obtain ⟨s_0, z1⟩ := nm (mt kk)
  obtain ⟨c_1, f6, d5, f5, d7⟩ := add_one hA p0 q0 hr0 e1
  have hrow : ([.str s_0] : List PV) = eString (meString kk y) := by
   subst f6
   show _ = ([_] : List PV)
   exact congr (congrArg List.cons (congrArg PV.str z1)) (rfl)
  have hget : a_r[(Int.toNat n5)]? = some [.str s_0] := by
   rw [hrow, hn5]; exact map_at eString b1 hro
  refine go_draw (by cbv) ?_
  refine rd hA 2 (by cbv) ?_
  refine dops_step rfl rfl rfl (idx_sl rfl rfl rfl rfl rfl h05 rfl hget) ?_
  refine rd hA 2 (by cbv) ?_
  obtain ⟨o1, y0, hc3⟩ : ∃ (o1 : ByteArray), o1 = (mt kk) ∧ Real Tryz.prog 71 [.int .i64 kk] (.str o1) := ⟨_, rfl, by exact r_laws_markText A hA kk p0 (le_k q0 e0)⟩
  refine dops_callV rfl rfl (by cbv) (by cbv) hc3 (.inr rfl) ?_
  refine rd hA 1 (by cbv) (dd_ ?_)
  refine go_cond rfl (fun c4 => ?_) (fun c4 => ?_)
  ·
   exact no_t c4 (show (A.scmp .neq s_0 o1) = false from by subst hA; simp [std, z1, y0])
  ·
   refine gk (gr (ra hA 1 (by cbv) ?_))
   refine ops_step rfl rfl (int_add hA rfl rfl rfl d5) ?_
   refine ra hA 1 (by cbv) (od ?_)
   refine gr (ra hA 3 (by cbv) (od ?_))
   refine ⟨(S77_1 a_r c_1 (A.num .add .i64 n5 1)), List.length x - (i + 1), ?_, by cbv, i + 1, (A.num .add .i64 n5 1), c_1, rfl, ?_, rfl⟩
   ·
    exact hdec
   ·
    exact ⟨f4, hi1, fin_k d7 hr1 hrce hkk cat⟩
 ·
  have ec1 : (A.rlen a_r) ≤ n5 := lss_f hA c1
  refine go_exit ⟨fun _ => ?_, fun h => absurd rfl h⟩
  refine gs (gr (ra hA 2 (by cbv) (od ?_)))
  refine go_ret ⟨_, by cbv, ?_⟩
  show _ = (PV.int .i64 kk)
  refine congrArg (PV.int .i64) ?_
  rw [hkk, List.take_of_length_le (by omega)]
def S76_1 (p0 : RR) (p1 : Int) (p2 : Int) : St := { sl := [.sl 1 p0, .int .i64 p1, .bad, .bad, .bad, .int .i64 p2, .bad, .bad, .bad, .bad, .bad, .bad, .bad, .bad, .bad, .bad, .bad, .bad, .bad, .bad, .bad], bl := [] }
theorem r_laws_heldIntS (A : Alg) (hA : A = std) (x : List Int) (k : Int) (h0 : 0 ≤ k) (h1 : k + cnIntS x ≤ 1099511627776) : Real Tryz.prog 76 [.sl 1 (List.map eInt (mkIntS k x)), .int .i64 k] (.int .i64 (k + cnIntS x)) := by
 obtain ⟨a_r, b1⟩ := nm (List.map eInt (mkIntS k x))
 have l5 : A.rlen a_r = (List.length x : Int) := by rw [rlen_map hA b1, mkIntS_len]
 have h2 : (List.length x : Int) ≤ 1099511627776 := by have := cnIntS_ge x; omega
 refine real_args (args' := [.sl 1 a_r, .int .i64 k]) (by subst b1; rfl) ?_
 refine real tyOk Tryz.func76 (by kernel_rfl) (afun_of rfl ?_)
 refine gs (gr (ra hA 1 (by cbv) (od ?_)))
 refine gs (gs (gr (ra hA 1 (by cbv) (od ?_))))
 refine go_block ?_
 refine go_loopE (fun σ m => ∃ (i : Nat) (n5 : Int) (kk : Int), σ = (S76_1 a_r kk n5) ∧ (n5 = (i : Int) ∧ i ≤ List.length x ∧ kk = k + cnIntS (x.take i)) ∧ m = List.length x - i) _ [] [0, 1, 5] [] (S76_1 a_r k 0) rfl (by cbv) ⟨0, 0, k, rfl, ?_, rfl⟩ (fun σ m hI => ?_)
 ·
  exact ⟨rfl, Nat.zero_le _, by simp [cnIntS]⟩
 obtain ⟨i, n5, kk, rfl, ⟨hn5, hi, hkk⟩, rfl⟩ := hI
 refine gs (gs (gr (ra hA 4 (by cbv) (od ?_))))
 refine go_cond rfl (fun c1 => ?_) (fun c1 => ?_)
 ·
  have ec1 : n5 < (A.rlen a_r) := lss_t hA c1
  refine gk (gs ?_)
  refine go_block ?_
  refine gs (gs ?_)
  have h05 : (0 : Int) ≤ n5 := by omega
  have hlt : i < List.length x := by omega
  obtain ⟨y, hyi⟩ : ∃ y, x[i]? = some y := ⟨_, List.getElem?_eq_getElem hlt⟩
  have cat := cnIntS_at hyi
  have cle := cnIntS_le x (i + 1)
  have cnn := cnIntS_nn (x.take i)
  have hro := mkIntS_get k hyi
  rw [← hkk] at hro
  have cce : ceInt y = 1 := rfl
  obtain ⟨r1, hr1, e1⟩ : ∃ r : Int, r = 0 ∧ 0 ≤ r := ⟨0, rfl, by decide⟩
  obtain ⟨r0, hr0, e0⟩ : ∃ r : Int, r = 1 + r1 ∧ 0 ≤ r := ⟨_, rfl, nn_add (by decide) e1⟩
  have p0 : 0 ≤ kk := by clear hr1 e1 hr0 e0; omega
  have hrce : r0 = ceInt y := by subst hr1 hr0; rw [cce]; omega
  have q0 : kk + r0 ≤ 1099511627776 ∧ kk + r0 = kk + r0 := ⟨by clear hr1 e1 hr0 e0; omega, rfl⟩
  have l7 : n5 < (List.length x : Int) := by clear hr1 e1 hr0 e0; omega
  have hi1 : i + 1 ≤ List.length x := by clear hr1 e1 hr0 e0; omega
  have f4 : A.num .add .i64 n5 1 = ((i + 1 : Nat) : Int) := by
   clear hr1 e1 hr0 e0; rw [add_i64 hA (by omega) (by omega)]; omega
  have hdec : List.length x - (i + 1) < List.length x - i := by clear hr1 e1 hr0 e0; omega
  obtain ⟨c_1, f6, d5, f5, d7⟩ := add_one hA p0 q0 hr0 e1
  have hrow : ([.int .i64 kk] : List PV) = eInt (meInt kk y) := by
   subst f6
   show _ = ([_] : List PV)
   exact congr (congrArg List.cons (congrArg (PV.int .i64) rfl)) (rfl)
  have hget : a_r[(Int.toNat n5)]? = some [.int .i64 kk] := by
   rw [hrow, hn5]; exact map_at eInt b1 hro
  refine gr (ra hA 2 (by cbv) ?_)
  refine ops_step rfl rfl (idx_sl rfl rfl rfl rfl rfl h05 rfl hget) ?_
  refine ra hA 3 (by cbv) (od ?_)
  refine go_cond rfl (fun c2 => ?_) (fun c2 => ?_)
  ·
   exact no_t c2 (show (A.cmp .neq kk kk) = false from by subst hA; simp [std])
  ·
   refine gk (gr (ra hA 1 (by cbv) ?_))
   refine ops_step rfl rfl (int_add hA rfl rfl rfl d5) ?_
   refine ra hA 1 (by cbv) (od ?_)
   refine gr (ra hA 3 (by cbv) (od ?_))
   refine ⟨(S76_1 a_r c_1 (A.num .add .i64 n5 1)), List.length x - (i + 1), ?_, by cbv, i + 1, (A.num .add .i64 n5 1), c_1, rfl, ?_, rfl⟩
   ·
    exact hdec
   ·
    exact ⟨f4, hi1, fin_k d7 hr1 hrce hkk cat⟩
 ·
  have ec1 : (A.rlen a_r) ≤ n5 := lss_f hA c1
  refine go_exit ⟨fun _ => ?_, fun h => absurd rfl h⟩
  refine gs (gr (ra hA 2 (by cbv) (od ?_)))
  refine go_ret ⟨_, by cbv, ?_⟩
  show _ = (PV.int .i64 kk)
  refine congrArg (PV.int .i64) ?_
  rw [hkk, List.take_of_length_le (by omega)]
def S79_1 (p0 : RR) (p1 : Int) (p2 : Int) : St := { sl := [.sl 1 p0, .int .i64 p1, .bad, .bad, .bad, .int .i64 p2, .bad, .bad, .bad, .bad, .bad, .bad, .bad, .bad, .bad, .bad, .bad, .bad, .bad, .bad, .bad, .bad, .bad], bl := [] }
theorem r_laws_heldBoolS (A : Alg) (hA : A = std) (x : List Bool) (k : Int) (h0 : 0 ≤ k) (h1 : k + cnBoolS x ≤ 1099511627776) : Real Tryz.prog 79 [.sl 1 (List.map eBool (mkBoolS k x)), .int .i64 k] (.int .i64 (k + cnBoolS x)) := by
 obtain ⟨a_r, b1⟩ := nm (List.map eBool (mkBoolS k x))
 have l5 : A.rlen a_r = (List.length x : Int) := by rw [rlen_map hA b1, mkBoolS_len]
 have h2 : (List.length x : Int) ≤ 1099511627776 := by have := cnBoolS_ge x; omega
 refine real_args (args' := [.sl 1 a_r, .int .i64 k]) (by subst b1; rfl) ?_
 refine real tyOk Tryz.func79 (by kernel_rfl) (afun_of rfl ?_)
 refine gs (gr (ra hA 1 (by cbv) (od ?_)))
 refine gs (gs (gr (ra hA 1 (by cbv) (od ?_))))
 refine go_block ?_
 refine go_loopE (fun σ m => ∃ (i : Nat) (n5 : Int) (kk : Int), σ = (S79_1 a_r kk n5) ∧ (n5 = (i : Int) ∧ i ≤ List.length x ∧ kk = k + cnBoolS (x.take i)) ∧ m = List.length x - i) _ [] [0, 1, 5] [] (S79_1 a_r k 0) rfl (by cbv) ⟨0, 0, k, rfl, ?_, rfl⟩ (fun σ m hI => ?_)
 ·
  exact ⟨rfl, Nat.zero_le _, by simp [cnBoolS]⟩
 obtain ⟨i, n5, kk, rfl, ⟨hn5, hi, hkk⟩, rfl⟩ := hI
 refine gs (gs (gr (ra hA 4 (by cbv) (od ?_))))
 refine go_cond rfl (fun c1 => ?_) (fun c1 => ?_)
 ·
  have ec1 : n5 < (A.rlen a_r) := lss_t hA c1
  refine gk (gs ?_)
  refine go_block ?_
  refine gs (gs ?_)
  have h05 : (0 : Int) ≤ n5 := by omega
  have hlt : i < List.length x := by omega
  obtain ⟨y, hyi⟩ : ∃ y, x[i]? = some y := ⟨_, List.getElem?_eq_getElem hlt⟩
  have cat := cnBoolS_at hyi
  have cle := cnBoolS_le x (i + 1)
  have cnn := cnBoolS_nn (x.take i)
  have hro := mkBoolS_get k hyi
  rw [← hkk] at hro
  have cce : ceBool y = 1 := rfl
  obtain ⟨r1, hr1, e1⟩ : ∃ r : Int, r = 0 ∧ 0 ≤ r := ⟨0, rfl, by decide⟩
  obtain ⟨r0, hr0, e0⟩ : ∃ r : Int, r = 1 + r1 ∧ 0 ≤ r := ⟨_, rfl, nn_add (by decide) e1⟩
  have p0 : 0 ≤ kk := by clear hr1 e1 hr0 e0; omega
  have hrce : r0 = ceBool y := by subst hr1 hr0; rw [cce]; omega
  have q0 : kk + r0 ≤ 1099511627776 ∧ kk + r0 = kk + r0 := ⟨by clear hr1 e1 hr0 e0; omega, rfl⟩
  have l7 : n5 < (List.length x : Int) := by clear hr1 e1 hr0 e0; omega
  have hi1 : i + 1 ≤ List.length x := by clear hr1 e1 hr0 e0; omega
  have f4 : A.num .add .i64 n5 1 = ((i + 1 : Nat) : Int) := by
   clear hr1 e1 hr0 e0; rw [add_i64 hA (by omega) (by omega)]; omega
  have hdec : List.length x - (i + 1) < List.length x - i := by clear hr1 e1 hr0 e0; omega
  obtain ⟨c_1, f6, d5, f5, d7⟩ := add_one hA p0 q0 hr0 e1
  have hrow : ([.bool (A.cmp .eql (A.num .rem .i64 kk 3) 0)] : List PV) = eBool (meBool kk y) := by
   subst f6
   show _ = ([_] : List PV)
   exact congr (congrArg List.cons (congrArg PV.bool (mb_eq hA rfl))) (rfl)
  have hget : a_r[(Int.toNat n5)]? = some [.bool (A.cmp .eql (A.num .rem .i64 kk 3) 0)] := by
   rw [hrow, hn5]; exact map_at eBool b1 hro
  refine gr (ra hA 2 (by cbv) ?_)
  refine ops_step rfl rfl (idx_sl rfl rfl rfl rfl rfl h05 rfl hget) ?_
  refine ra hA 5 (by cbv) (od ?_)
  refine go_cond rfl (fun c2 => ?_) (fun c2 => ?_)
  ·
   exact no_t c2 (show (A.bnot (A.beq (A.cmp .eql (A.num .rem .i64 kk 3) 0) (A.cmp .eql (A.num .rem .i64 kk 3) 0))) = false from by subst hA; simp [std])
  ·
   refine gk (gr (ra hA 1 (by cbv) ?_))
   refine ops_step rfl rfl (int_add hA rfl rfl rfl d5) ?_
   refine ra hA 1 (by cbv) (od ?_)
   refine gr (ra hA 3 (by cbv) (od ?_))
   refine ⟨(S79_1 a_r c_1 (A.num .add .i64 n5 1)), List.length x - (i + 1), ?_, by cbv, i + 1, (A.num .add .i64 n5 1), c_1, rfl, ?_, rfl⟩
   ·
    exact hdec
   ·
    exact ⟨f4, hi1, fin_k d7 hr1 hrce hkk cat⟩
 ·
  have ec1 : (A.rlen a_r) ≤ n5 := lss_f hA c1
  refine go_exit ⟨fun _ => ?_, fun h => absurd rfl h⟩
  refine gs (gr (ra hA 2 (by cbv) (od ?_)))
  refine go_ret ⟨_, by cbv, ?_⟩
  show _ = (PV.int .i64 kk)
  refine congrArg (PV.int .i64) ?_
  rw [hkk, List.take_of_length_le (by omega)]
def S159_1 (p0 : RR) (p1 : Int) (p2 : Int) : St := { sl := [.sl 2 p0, .int .i64 p1, .bad, .bad, .bad, .int .i64 p2, .bad, .bad, .bad, .bad, .bad, .bad, .bad, .bad, .bad, .bad, .bad, .bad, .bad, .bad, .bad, .bad, .bad, .bad, .bad, .bad, .bad, .bad, .bad, .bad, .bad, .bad], bl := [] }
theorem r_laws_heldWriteS (A : Alg) (hA : A = std) (x : List GWrite) (k : Int) (h0 : 0 ≤ k) (h1 : k + cnWriteS x ≤ 1099511627776) : Real Tryz.prog 159 [.sl 2 (List.map eWrite (mkWriteS k x)), .int .i64 k] (.int .i64 (k + cnWriteS x)) := by
 obtain ⟨a_r, b1⟩ := nm (List.map eWrite (mkWriteS k x))
 have l5 : A.rlen a_r = (List.length x : Int) := by rw [rlen_map hA b1, mkWriteS_len]
 have h2 : (List.length x : Int) ≤ 1099511627776 := by have := cnWriteS_ge x; omega
 refine real_args (args' := [.sl 2 a_r, .int .i64 k]) (by subst b1; rfl) ?_
 refine real tyOk Tryz.func159 (by kernel_rfl) (afun_of rfl ?_)
 refine gs (gr (ra hA 1 (by cbv) (od ?_)))
 refine gs (gs (gr (ra hA 1 (by cbv) (od ?_))))
 refine go_block ?_
 refine go_loopE (fun σ m => ∃ (i : Nat) (n5 : Int) (kk : Int), σ = (S159_1 a_r kk n5) ∧ (n5 = (i : Int) ∧ i ≤ List.length x ∧ kk = k + cnWriteS (x.take i)) ∧ m = List.length x - i) _ [] [0, 1, 5] [] (S159_1 a_r k 0) rfl (by cbv) ⟨0, 0, k, rfl, ?_, rfl⟩ (fun σ m hI => ?_)
 ·
  exact ⟨rfl, Nat.zero_le _, by simp [cnWriteS]⟩
 obtain ⟨i, n5, kk, rfl, ⟨hn5, hi, hkk⟩, rfl⟩ := hI
 refine gs (gs (gr (ra hA 4 (by cbv) (od ?_))))
 refine go_cond rfl (fun c1 => ?_) (fun c1 => ?_)
 ·
  have ec1 : n5 < (A.rlen a_r) := lss_t hA c1
  refine gk (gs ?_)
  refine go_block ?_
  refine gs (gs ?_)
  have h05 : (0 : Int) ≤ n5 := by omega
  have hlt : i < List.length x := by omega
  obtain ⟨y, hyi⟩ : ∃ y, x[i]? = some y := ⟨_, List.getElem?_eq_getElem hlt⟩
  have cat := cnWriteS_at hyi
  have cle := cnWriteS_le x (i + 1)
  have cnn := cnWriteS_nn (x.take i)
  have hro := mkWriteS_get k hyi
  rw [← hkk] at hro
  obtain ⟨v1, i2⟩ := y
  have cce : ceWrite (⟨v1, i2⟩ : GWrite) = 1 + 1 := rfl
  obtain ⟨r2, hr2, e2⟩ : ∃ r : Int, r = 0 ∧ 0 ≤ r := ⟨0, rfl, by decide⟩
  obtain ⟨r1, hr1, e1⟩ : ∃ r : Int, r = 1 + r2 ∧ 0 ≤ r := ⟨_, rfl, nn_add (by decide) e2⟩
  obtain ⟨r0, hr0, e0⟩ : ∃ r : Int, r = 1 + r1 ∧ 0 ≤ r := ⟨_, rfl, nn_add (by decide) e1⟩
  have p0 : 0 ≤ kk := by clear hr2 e2 hr1 e1 hr0 e0; omega
  have hrce : r0 = ceWrite (⟨v1, i2⟩ : GWrite) := by subst hr2 hr1 hr0; rw [cce]; omega
  have q0 : kk + r0 ≤ 1099511627776 ∧ kk + r0 = kk + r0 := ⟨by clear hr2 e2 hr1 e1 hr0 e0; omega, rfl⟩
  have l7 : n5 < (List.length x : Int) := by clear hr2 e2 hr1 e1 hr0 e0; omega
  have hi1 : i + 1 ≤ List.length x := by clear hr2 e2 hr1 e1 hr0 e0; omega
  have f4 : A.num .add .i64 n5 1 = ((i + 1 : Nat) : Int) := by
   clear hr2 e2 hr1 e1 hr0 e0; rw [add_i64 hA (by omega) (by omega)]; omega
  have hdec : List.length x - (i + 1) < List.length x - i := by clear hr2 e2 hr1 e1 hr0 e0; omega
  obtain ⟨c_1, f6, d5, f5, d7⟩ := add_one hA p0 q0 hr0 e1
  obtain ⟨s_1, l3⟩ := nm (mt c_1)
  obtain ⟨c_2, i5, g0, g1, f9⟩ := add_one hA f5 d7 hr1 e2
  have hrow : ([.int .i64 kk, .str s_1] : List PV) = eWrite (meWrite kk (⟨v1, i2⟩ : GWrite)) := by
   subst f6 i5
   show _ = ([_, _] : List PV)
   exact congr (congrArg List.cons (congrArg (PV.int .i64) rfl)) (congr (congrArg List.cons (congrArg PV.str l3)) (rfl))
  have hget : a_r[(Int.toNat n5)]? = some [.int .i64 kk, .str s_1] := by
   rw [hrow, hn5]; exact map_at eWrite b1 hro
  refine gr (ra hA 2 (by cbv) ?_)
  refine ops_step rfl rfl (idx_sl rfl rfl rfl rfl rfl h05 rfl hget) ?_
  refine ra hA 4 (by cbv) (od ?_)
  refine go_cond rfl (fun c2 => ?_) (fun c2 => ?_)
  ·
   exact no_t c2 (show (A.cmp .neq kk kk) = false from by subst hA; simp [std])
  ·
   refine gk (gs (gr (ra hA 1 (by cbv) ?_)))
   refine ops_step rfl rfl (int_add hA rfl rfl rfl d5) ?_
   refine ra hA 1 (by cbv) (od ?_)
   refine gs (gs ?_)
   refine go_draw (by cbv) ?_
   refine rd hA 2 (by cbv) ?_
   refine dops_step rfl rfl rfl (idx_sl rfl rfl rfl rfl rfl h05 rfl hget) ?_
   refine rd hA 3 (by cbv) ?_
   obtain ⟨f1, l2, hc4⟩ : ∃ (f1 : ByteArray), f1 = (mt c_1) ∧ Real Tryz.prog 71 [.int .i64 c_1] (.str f1) := ⟨_, rfl, by exact r_laws_markText A hA c_1 f5 (le_k d7 e1)⟩
   refine dops_callV rfl rfl (by cbv) (by cbv) hc4 (.inr rfl) ?_
   refine rd hA 1 (by cbv) (dd_ ?_)
   refine go_cond rfl (fun c5 => ?_) (fun c5 => ?_)
   ·
    exact no_t c5 (show (A.scmp .neq s_1 f1) = false from by subst hA; simp [std, l3, l2])
   ·
    refine gk (gr (ra hA 1 (by cbv) ?_))
    refine ops_step rfl rfl (int_add hA rfl rfl rfl g0) ?_
    refine ra hA 1 (by cbv) (od ?_)
    refine gr (ra hA 3 (by cbv) (od ?_))
    refine ⟨(S159_1 a_r c_2 (A.num .add .i64 n5 1)), List.length x - (i + 1), ?_, by cbv, i + 1, (A.num .add .i64 n5 1), c_2, rfl, ?_, rfl⟩
    ·
     exact hdec
    ·
     exact ⟨f4, hi1, fin_k f9 hr2 hrce hkk cat⟩
 ·
  have ec1 : (A.rlen a_r) ≤ n5 := lss_f hA c1
  refine go_exit ⟨fun _ => ?_, fun h => absurd rfl h⟩
  refine gs (gr (ra hA 2 (by cbv) (od ?_)))
  refine go_ret ⟨_, by cbv, ?_⟩
  show _ = (PV.int .i64 kk)
  refine congrArg (PV.int .i64) ?_
  rw [hkk, List.take_of_length_le (by omega)]
def S78_1 (p0 : RR) (p1 : Int) (p2 : Int) : St := { sl := [.sl 3 p0, .int .i64 p1, .bad, .bad, .bad, .int .i64 p2, .bad, .bad, .bad, .bad, .bad, .bad, .bad, .bad, .bad, .bad, .bad, .bad, .bad, .bad, .bad, .bad, .bad, .bad, .bad, .bad, .bad, .bad, .bad, .bad, .bad, .bad, .bad, .bad, .bad, .bad, .bad, .bad, .bad, .bad, .bad], bl := [] }
theorem r_laws_heldMailS (A : Alg) (hA : A = std) (x : List GMail) (k : Int) (h0 : 0 ≤ k) (h1 : k + cnMailS x ≤ 1099511627776) : Real Tryz.prog 78 [.sl 3 (List.map eMail (mkMailS k x)), .int .i64 k] (.int .i64 (k + cnMailS x)) := by
 obtain ⟨a_r, b1⟩ := nm (List.map eMail (mkMailS k x))
 have l5 : A.rlen a_r = (List.length x : Int) := by rw [rlen_map hA b1, mkMailS_len]
 have h2 : (List.length x : Int) ≤ 1099511627776 := by have := cnMailS_ge x; omega
 refine real_args (args' := [.sl 3 a_r, .int .i64 k]) (by subst b1; rfl) ?_
 refine real tyOk Tryz.func78 (by kernel_rfl) (afun_of rfl ?_)
 refine gs (gr (ra hA 1 (by cbv) (od ?_)))
 refine gs (gs (gr (ra hA 1 (by cbv) (od ?_))))
 refine go_block ?_
 refine go_loopE (fun σ m => ∃ (i : Nat) (n5 : Int) (kk : Int), σ = (S78_1 a_r kk n5) ∧ (n5 = (i : Int) ∧ i ≤ List.length x ∧ kk = k + cnMailS (x.take i)) ∧ m = List.length x - i) _ [] [0, 1, 5] [] (S78_1 a_r k 0) rfl (by cbv) ⟨0, 0, k, rfl, ?_, rfl⟩ (fun σ m hI => ?_)
 ·
  exact ⟨rfl, Nat.zero_le _, by simp [cnMailS]⟩
 obtain ⟨i, n5, kk, rfl, ⟨hn5, hi, hkk⟩, rfl⟩ := hI
 refine gs (gs (gr (ra hA 4 (by cbv) (od ?_))))
 refine go_cond rfl (fun c1 => ?_) (fun c1 => ?_)
 ·
  have ec1 : n5 < (A.rlen a_r) := lss_t hA c1
  refine gk (gs ?_)
  refine go_block ?_
  refine gs (gs ?_)
  have h05 : (0 : Int) ≤ n5 := by omega
  have hlt : i < List.length x := by omega
  obtain ⟨y, hyi⟩ : ∃ y, x[i]? = some y := ⟨_, List.getElem?_eq_getElem hlt⟩
  have cat := cnMailS_at hyi
  have cle := cnMailS_le x (i + 1)
  have cnn := cnMailS_nn (x.take i)
  have hro := mkMailS_get k hyi
  rw [← hkk] at hro
  obtain ⟨t3, n6, i2⟩ := y
  have cce : ceMail (⟨t3, n6, i2⟩ : GMail) = 1 + 1 + 1 := rfl
  obtain ⟨r3, hr3, e3⟩ : ∃ r : Int, r = 0 ∧ 0 ≤ r := ⟨0, rfl, by decide⟩
  obtain ⟨r2, hr2, e2⟩ : ∃ r : Int, r = 1 + r3 ∧ 0 ≤ r := ⟨_, rfl, nn_add (by decide) e3⟩
  obtain ⟨r1, hr1, e1⟩ : ∃ r : Int, r = 1 + r2 ∧ 0 ≤ r := ⟨_, rfl, nn_add (by decide) e2⟩
  obtain ⟨r0, hr0, e0⟩ : ∃ r : Int, r = 1 + r1 ∧ 0 ≤ r := ⟨_, rfl, nn_add (by decide) e1⟩
  have p0 : 0 ≤ kk := by clear hr3 e3 hr2 e2 hr1 e1 hr0 e0; omega
  have hrce : r0 = ceMail (⟨t3, n6, i2⟩ : GMail) := by subst hr3 hr2 hr1 hr0; rw [cce]; omega
  have q0 : kk + r0 ≤ 1099511627776 ∧ kk + r0 = kk + r0 := ⟨by clear hr3 e3 hr2 e2 hr1 e1 hr0 e0; omega, rfl⟩
  have l7 : n5 < (List.length x : Int) := by clear hr3 e3 hr2 e2 hr1 e1 hr0 e0; omega
  have hi1 : i + 1 ≤ List.length x := by clear hr3 e3 hr2 e2 hr1 e1 hr0 e0; omega
  have f4 : A.num .add .i64 n5 1 = ((i + 1 : Nat) : Int) := by
   clear hr3 e3 hr2 e2 hr1 e1 hr0 e0; rw [add_i64 hA (by omega) (by omega)]; omega
  have hdec : List.length x - (i + 1) < List.length x - i := by clear hr3 e3 hr2 e2 hr1 e1 hr0 e0; omega
  obtain ⟨c_1, f6, d5, f5, d7⟩ := add_one hA p0 q0 hr0 e1
  obtain ⟨c_2, i5, g0, g1, f9⟩ := add_one hA f5 d7 hr1 e2
  obtain ⟨s_2, l0⟩ := nm (mt c_2)
  obtain ⟨c_3, k4, g7, j7, i8⟩ := add_one hA g1 f9 hr2 e3
  have hrow : ([.int .i64 kk, .int .i64 c_1, .str s_2] : List PV) = eMail (meMail kk (⟨t3, n6, i2⟩ : GMail)) := by
   subst f6 i5 k4
   show _ = ([_, _, _] : List PV)
   exact congr (congrArg List.cons (congrArg (PV.int .i64) rfl)) (congr (congrArg List.cons (congrArg (PV.int .i64) rfl)) (congr (congrArg List.cons (congrArg PV.str l0)) (rfl)))
  have hget : a_r[(Int.toNat n5)]? = some [.int .i64 kk, .int .i64 c_1, .str s_2] := by
   rw [hrow, hn5]; exact map_at eMail b1 hro
  refine gr (ra hA 2 (by cbv) ?_)
  refine ops_step rfl rfl (idx_sl rfl rfl rfl rfl rfl h05 rfl hget) ?_
  refine ra hA 4 (by cbv) (od ?_)
  refine go_cond rfl (fun c2 => ?_) (fun c2 => ?_)
  ·
   exact no_t c2 (show (A.cmp .neq kk kk) = false from by subst hA; simp [std])
  ·
   refine gk (gs (gr (ra hA 1 (by cbv) ?_)))
   refine ops_step rfl rfl (int_add hA rfl rfl rfl d5) ?_
   refine ra hA 1 (by cbv) (od ?_)
   refine gs (gs (gr (ra hA 2 (by cbv) ?_)))
   refine ops_step rfl rfl (idx_sl rfl rfl rfl rfl rfl h05 rfl hget) ?_
   refine ra hA 4 (by cbv) (od ?_)
   refine go_cond rfl (fun c3 => ?_) (fun c3 => ?_)
   ·
    exact no_t c3 (show (A.cmp .neq c_1 c_1) = false from by subst hA; simp [std])
   ·
    refine gk (gs (gr (ra hA 1 (by cbv) ?_)))
    refine ops_step rfl rfl (int_add hA rfl rfl rfl g0) ?_
    refine ra hA 1 (by cbv) (od ?_)
    refine gs (gs ?_)
    refine go_draw (by cbv) ?_
    refine rd hA 2 (by cbv) ?_
    refine dops_step rfl rfl rfl (idx_sl rfl rfl rfl rfl rfl h05 rfl hget) ?_
    refine rd hA 3 (by cbv) ?_
    obtain ⟨o2, y8, hc5⟩ : ∃ (o2 : ByteArray), o2 = (mt c_2) ∧ Real Tryz.prog 71 [.int .i64 c_2] (.str o2) := ⟨_, rfl, by exact r_laws_markText A hA c_2 g1 (le_k f9 e2)⟩
    refine dops_callV rfl rfl (by cbv) (by cbv) hc5 (.inr rfl) ?_
    refine rd hA 1 (by cbv) (dd_ ?_)
    refine go_cond rfl (fun c6 => ?_) (fun c6 => ?_)
    ·
     exact no_t c6 (show (A.scmp .neq s_2 o2) = false from by subst hA; simp [std, l0, y8])
    ·
     refine gk (gr (ra hA 1 (by cbv) ?_))
     refine ops_step rfl rfl (int_add hA rfl rfl rfl g7) ?_
     refine ra hA 1 (by cbv) (od ?_)
     refine gr (ra hA 3 (by cbv) (od ?_))
     refine ⟨(S78_1 a_r c_3 (A.num .add .i64 n5 1)), List.length x - (i + 1), ?_, by cbv, i + 1, (A.num .add .i64 n5 1), c_3, rfl, ?_, rfl⟩
     ·
      exact hdec
     ·
      exact ⟨f4, hi1, fin_k i8 hr3 hrce hkk cat⟩
 ·
  have ec1 : (A.rlen a_r) ≤ n5 := lss_f hA c1
  refine go_exit ⟨fun _ => ?_, fun h => absurd rfl h⟩
  refine gs (gr (ra hA 2 (by cbv) (od ?_)))
  refine go_ret ⟨_, by cbv, ?_⟩
  show _ = (PV.int .i64 kk)
  refine congrArg (PV.int .i64) ?_
  rw [hkk, List.take_of_length_le (by omega)]
def S160_1 (p0 : RR) (p1 : Int) (p2 : Int) : St := { sl := [.sl 9 p0, .int .i64 p1, .bad, .bad, .bad, .int .i64 p2, .bad, .bad, .bad, .bad, .bad, .bad, .bad, .bad, .bad, .bad, .bad, .bad, .bad, .bad, .bad, .bad, .bad, .bad, .bad, .bad, .bad, .bad, .bad, .bad, .bad, .bad, .bad, .bad, .bad, .bad, .bad, .bad, .bad, .bad, .bad, .bad, .bad, .bad, .bad, .bad, .bad, .bad, .bad, .bad, .bad, .bad, .bad, .bad, .bad, .bad, .bad, .bad, .bad, .bad, .bad, .bad, .bad, .bad, .bad, .bad, .bad, .bad, .bad, .bad, .bad, .bad, .bad, .bad, .bad, .bad, .bad, .bad, .bad, .bad, .bad, .bad, .bad, .bad, .bad, .bad, .bad, .bad, .bad, .bad, .bad, .bad, .bad, .bad, .bad, .bad, .bad, .bad, .bad, .bad, .bad, .bad, .bad, .bad, .bad], bl := [] }
theorem r_laws_heldItemS (A : Alg) (hA : A = std) (x : List GItem) (k : Int) (h0 : 0 ≤ k) (h1 : k + cnItemS x ≤ 1099511627776) : Real Tryz.prog 160 [.sl 9 (List.map eItem (mkItemS k x)), .int .i64 k] (.int .i64 (k + cnItemS x)) := by
 obtain ⟨a_r, b1⟩ := nm (List.map eItem (mkItemS k x))
 have l5 : A.rlen a_r = (List.length x : Int) := by rw [rlen_map hA b1, mkItemS_len]
 have h2 : (List.length x : Int) ≤ 1099511627776 := by have := cnItemS_ge x; omega
 refine real_args (args' := [.sl 9 a_r, .int .i64 k]) (by subst b1; rfl) ?_
 refine real tyOk Tryz.func160 (by kernel_rfl) (afun_of rfl ?_)
 refine gs (gr (ra hA 1 (by cbv) (od ?_)))
 refine gs (gs (gr (ra hA 1 (by cbv) (od ?_))))
 refine go_block ?_
 refine go_loopE (fun σ m => ∃ (i : Nat) (n5 : Int) (kk : Int), σ = (S160_1 a_r kk n5) ∧ (n5 = (i : Int) ∧ i ≤ List.length x ∧ kk = k + cnItemS (x.take i)) ∧ m = List.length x - i) _ [] [0, 1, 5] [] (S160_1 a_r k 0) rfl (by cbv) ⟨0, 0, k, rfl, ?_, rfl⟩ (fun σ m hI => ?_)
 ·
  exact ⟨rfl, Nat.zero_le _, by simp [cnItemS]⟩
 obtain ⟨i, n5, kk, rfl, ⟨hn5, hi, hkk⟩, rfl⟩ := hI
 refine gs (gs (gr (ra hA 4 (by cbv) (od ?_))))
 refine go_cond rfl (fun c1 => ?_) (fun c1 => ?_)
 ·
  have ec1 : n5 < (A.rlen a_r) := lss_t hA c1
  refine gk (gs ?_)
  refine go_block ?_
  refine gs (gs ?_)
  have h05 : (0 : Int) ≤ n5 := by omega
  have hlt : i < List.length x := by omega
  obtain ⟨y, hyi⟩ : ∃ y, x[i]? = some y := ⟨_, List.getElem?_eq_getElem hlt⟩
  have cat := cnItemS_at hyi
  have cle := cnItemS_le x (i + 1)
  have cnn := cnItemS_nn (x.take i)
  have hro := mkItemS_get k hyi
  rw [← hkk] at hro
  obtain ⟨s5, ⟨j9, i9, m0, k1, j2, j8, k3, k5⟩⟩ := y
  have cce : ceItem (⟨s5, ⟨j9, i9, m0, k1, j2, j8, k3, k5⟩⟩ : GItem) = 1 + 1 + 1 + 1 + 1 + 1 + 1 + 1 + 1 := rfl
  obtain ⟨r9, hr9, e9⟩ : ∃ r : Int, r = 0 ∧ 0 ≤ r := ⟨0, rfl, by decide⟩
  obtain ⟨r8, hr8, e8⟩ : ∃ r : Int, r = 1 + r9 ∧ 0 ≤ r := ⟨_, rfl, nn_add (by decide) e9⟩
  obtain ⟨r7, hr7, e7⟩ : ∃ r : Int, r = 1 + r8 ∧ 0 ≤ r := ⟨_, rfl, nn_add (by decide) e8⟩
  obtain ⟨r6, hr6, e6⟩ : ∃ r : Int, r = 1 + r7 ∧ 0 ≤ r := ⟨_, rfl, nn_add (by decide) e7⟩
  obtain ⟨r5, hr5, e5⟩ : ∃ r : Int, r = 1 + r6 ∧ 0 ≤ r := ⟨_, rfl, nn_add (by decide) e6⟩
  obtain ⟨r4, hr4, e4⟩ : ∃ r : Int, r = 1 + r5 ∧ 0 ≤ r := ⟨_, rfl, nn_add (by decide) e5⟩
  obtain ⟨r3, hr3, e3⟩ : ∃ r : Int, r = 1 + r4 ∧ 0 ≤ r := ⟨_, rfl, nn_add (by decide) e4⟩
  obtain ⟨r2, hr2, e2⟩ : ∃ r : Int, r = 1 + r3 ∧ 0 ≤ r := ⟨_, rfl, nn_add (by decide) e3⟩
  obtain ⟨r1, hr1, e1⟩ : ∃ r : Int, r = 1 + r2 ∧ 0 ≤ r := ⟨_, rfl, nn_add (by decide) e2⟩
  obtain ⟨r0, hr0, e0⟩ : ∃ r : Int, r = 1 + r1 ∧ 0 ≤ r := ⟨_, rfl, nn_add (by decide) e1⟩
  have p0 : 0 ≤ kk := by clear hr9 e9 hr8 e8 hr7 e7 hr6 e6 hr5 e5 hr4 e4 hr3 e3 hr2 e2 hr1 e1 hr0 e0; omega
  have hrce : r0 = ceItem (⟨s5, ⟨j9, i9, m0, k1, j2, j8, k3, k5⟩⟩ : GItem) := by subst hr9 hr8 hr7 hr6 hr5 hr4 hr3 hr2 hr1 hr0; rw [cce]; omega
  have q0 : kk + r0 ≤ 1099511627776 ∧ kk + r0 = kk + r0 := ⟨by clear hr9 e9 hr8 e8 hr7 e7 hr6 e6 hr5 e5 hr4 e4 hr3 e3 hr2 e2 hr1 e1 hr0 e0; omega, rfl⟩
  have l7 : n5 < (List.length x : Int) := by clear hr9 e9 hr8 e8 hr7 e7 hr6 e6 hr5 e5 hr4 e4 hr3 e3 hr2 e2 hr1 e1 hr0 e0; omega
  have hi1 : i + 1 ≤ List.length x := by clear hr9 e9 hr8 e8 hr7 e7 hr6 e6 hr5 e5 hr4 e4 hr3 e3 hr2 e2 hr1 e1 hr0 e0; omega
  have f4 : A.num .add .i64 n5 1 = ((i + 1 : Nat) : Int) := by
   clear hr9 e9 hr8 e8 hr7 e7 hr6 e6 hr5 e5 hr4 e4 hr3 e3 hr2 e2 hr1 e1 hr0 e0; rw [add_i64 hA (by omega) (by omega)]; omega
  have hdec : List.length x - (i + 1) < List.length x - i := by clear hr9 e9 hr8 e8 hr7 e7 hr6 e6 hr5 e5 hr4 e4 hr3 e3 hr2 e2 hr1 e1 hr0 e0; omega
  obtain ⟨c_1, f6, d5, f5, d7⟩ := add_one hA p0 q0 hr0 e1
  obtain ⟨c_2, i5, g0, g1, f9⟩ := add_one hA f5 d7 hr1 e2
  obtain ⟨c_3, k4, g7, j7, i8⟩ := add_one hA g1 f9 hr2 e3
  obtain ⟨c_4, o6, m9, n2, n3⟩ := add_one hA j7 i8 hr3 e4
  obtain ⟨c_5, v2, s7, s2, q9⟩ := add_one hA n2 n3 hr4 e5
  obtain ⟨c_6, w1, q8, p6, o8⟩ := add_one hA s2 q9 hr5 e6
  obtain ⟨s_6, n1⟩ := nm (mt c_6)
  obtain ⟨c_7, C2, B6, z2, y7⟩ := add_one hA p6 o8 hr6 e7
  obtain ⟨s_7, n7⟩ := nm (mt c_7)
  obtain ⟨c_8, C6, B3, z7, y3⟩ := add_one hA z2 y7 hr7 e8
  obtain ⟨s_8, x8⟩ := nm (mt c_8)
  obtain ⟨c_9, u4, t0, v7, s3⟩ := add_one hA z7 y3 hr8 e9
  have hrow : ([.int .i64 kk, .int .i64 c_1, .int .i64 c_2, .int .i64 c_3, .int .i64 c_4, .int .i64 c_5, .str s_6, .str s_7, .str s_8] : List PV) = eItem (meItem kk (⟨s5, ⟨j9, i9, m0, k1, j2, j8, k3, k5⟩⟩ : GItem)) := by
   subst f6 i5 k4 o6 v2 w1 C2 C6 u4
   show _ = ([_, _, _, _, _, _, _, _, _] : List PV)
   exact congr (congrArg List.cons (congrArg (PV.int .i64) rfl)) (congr (congrArg List.cons (congrArg (PV.int .i64) rfl)) (congr (congrArg List.cons (congrArg (PV.int .i64) rfl)) (congr (congrArg List.cons (congrArg (PV.int .i64) rfl)) (congr (congrArg List.cons (congrArg (PV.int .i64) rfl)) (congr (congrArg List.cons (congrArg (PV.int .i64) rfl)) (congr (congrArg List.cons (congrArg PV.str n1)) (congr (congrArg List.cons (congrArg PV.str n7)) (congr (congrArg List.cons (congrArg PV.str x8)) (rfl)))))))))
  have hget : a_r[(Int.toNat n5)]? = some [.int .i64 kk, .int .i64 c_1, .int .i64 c_2, .int .i64 c_3, .int .i64 c_4, .int .i64 c_5, .str s_6, .str s_7, .str s_8] := by
   rw [hrow, hn5]; exact map_at eItem b1 hro
  refine gr (ra hA 2 (by cbv) ?_)
  refine ops_step rfl rfl (idx_sl rfl rfl rfl rfl rfl h05 rfl hget) ?_
  refine ra hA 4 (by cbv) (od ?_)
  refine go_cond rfl (fun c2 => ?_) (fun c2 => ?_)
  ·
   exact no_t c2 (show (A.cmp .neq kk kk) = false from by subst hA; simp [std])
  ·
   refine gk (gs (gr (ra hA 1 (by cbv) ?_)))
   refine ops_step rfl rfl (int_add hA rfl rfl rfl d5) ?_
   refine ra hA 1 (by cbv) (od ?_)
   refine gs (gs (gr (ra hA 2 (by cbv) ?_)))
   refine ops_step rfl rfl (idx_sl rfl rfl rfl rfl rfl h05 rfl hget) ?_
   refine ra hA 5 (by cbv) (od ?_)
   refine go_cond rfl (fun c3 => ?_) (fun c3 => ?_)
   ·
    exact no_t c3 (show (A.cmp .neq c_1 c_1) = false from by subst hA; simp [std])
   ·
    refine gk (gs (gr (ra hA 1 (by cbv) ?_)))
    refine ops_step rfl rfl (int_add hA rfl rfl rfl g0) ?_
    refine ra hA 1 (by cbv) (od ?_)
    refine gs (gs (gr (ra hA 2 (by cbv) ?_)))
    refine ops_step rfl rfl (idx_sl rfl rfl rfl rfl rfl h05 rfl hget) ?_
    refine ra hA 5 (by cbv) (od ?_)
    refine go_cond rfl (fun c4 => ?_) (fun c4 => ?_)
    ·
     exact no_t c4 (show (A.cmp .neq c_2 c_2) = false from by subst hA; simp [std])
    ·
     refine gk (gs (gr (ra hA 1 (by cbv) ?_)))
     refine ops_step rfl rfl (int_add hA rfl rfl rfl g7) ?_
     refine ra hA 1 (by cbv) (od ?_)
     refine gs (gs (gr (ra hA 2 (by cbv) ?_)))
     refine ops_step rfl rfl (idx_sl rfl rfl rfl rfl rfl h05 rfl hget) ?_
     refine ra hA 5 (by cbv) (od ?_)
     refine go_cond rfl (fun c5 => ?_) (fun c5 => ?_)
     ·
      exact no_t c5 (show (A.cmp .neq c_3 c_3) = false from by subst hA; simp [std])
     ·
      refine gk (gs (gr (ra hA 1 (by cbv) ?_)))
      refine ops_step rfl rfl (int_add hA rfl rfl rfl m9) ?_
      refine ra hA 1 (by cbv) (od ?_)
      refine gs (gs (gr (ra hA 2 (by cbv) ?_)))
      refine ops_step rfl rfl (idx_sl rfl rfl rfl rfl rfl h05 rfl hget) ?_
      refine ra hA 5 (by cbv) (od ?_)
      refine go_cond rfl (fun c6 => ?_) (fun c6 => ?_)
      ·
       exact no_t c6 (show (A.cmp .neq c_4 c_4) = false from by subst hA; simp [std])
      ·
       refine gk (gs (gr (ra hA 1 (by cbv) ?_)))
       refine ops_step rfl rfl (int_add hA rfl rfl rfl s7) ?_
       refine ra hA 1 (by cbv) (od ?_)
       refine gs (gs (gr (ra hA 2 (by cbv) ?_)))
       refine ops_step rfl rfl (idx_sl rfl rfl rfl rfl rfl h05 rfl hget) ?_
       refine ra hA 5 (by cbv) (od ?_)
       refine go_cond rfl (fun c7 => ?_) (fun c7 => ?_)
       ·
        exact no_t c7 (show (A.cmp .neq c_5 c_5) = false from by subst hA; simp [std])
       ·
        refine gk (gs (gr (ra hA 1 (by cbv) ?_)))
        refine ops_step rfl rfl (int_add hA rfl rfl rfl q8) ?_
        refine ra hA 1 (by cbv) (od ?_)
        refine gs (gs ?_)
        refine go_draw (by cbv) ?_
        refine rd hA 2 (by cbv) ?_
        refine dops_step rfl rfl rfl (idx_sl rfl rfl rfl rfl rfl h05 rfl hget) ?_
        refine rd hA 4 (by cbv) ?_
        obtain ⟨o0, y9, hc9⟩ : ∃ (o0 : ByteArray), o0 = (mt c_6) ∧ Real Tryz.prog 71 [.int .i64 c_6] (.str o0) := ⟨_, rfl, by exact r_laws_markText A hA c_6 p6 (le_k o8 e6)⟩
        refine dops_callV rfl rfl (by cbv) (by cbv) hc9 (.inr rfl) ?_
        refine rd hA 1 (by cbv) (dd_ ?_)
        refine go_cond rfl (fun c10 => ?_) (fun c10 => ?_)
        ·
         exact no_t c10 (show (A.scmp .neq s_6 o0) = false from by subst hA; simp [std, n1, y9])
        ·
         refine gk (gs (gr (ra hA 1 (by cbv) ?_)))
         refine ops_step rfl rfl (int_add hA rfl rfl rfl B6) ?_
         refine ra hA 1 (by cbv) (od ?_)
         refine gs (gs ?_)
         refine go_draw (by cbv) ?_
         refine rd hA 2 (by cbv) ?_
         refine dops_step rfl rfl rfl (idx_sl rfl rfl rfl rfl rfl h05 rfl hget) ?_
         refine rd hA 4 (by cbv) ?_
         obtain ⟨m7, x6, v5⟩ : ∃ (m7 : ByteArray), m7 = (mt c_7) ∧ Real Tryz.prog 71 [.int .i64 c_7] (.str m7) := ⟨_, rfl, by exact r_laws_markText A hA c_7 z2 (le_k y7 e7)⟩
         refine dops_callV rfl rfl (by cbv) (by cbv) v5 (.inr rfl) ?_
         refine rd hA 1 (by cbv) (dd_ ?_)
         refine go_cond rfl (fun c13 => ?_) (fun c13 => ?_)
         ·
          exact no_t c13 (show (A.scmp .neq s_7 m7) = false from by subst hA; simp [std, n7, x6])
         ·
          refine gk (gs (gr (ra hA 1 (by cbv) ?_)))
          refine ops_step rfl rfl (int_add hA rfl rfl rfl B3) ?_
          refine ra hA 1 (by cbv) (od ?_)
          refine gs (gs ?_)
          refine go_draw (by cbv) ?_
          refine rd hA 2 (by cbv) ?_
          refine dops_step rfl rfl rfl (idx_sl rfl rfl rfl rfl rfl h05 rfl hget) ?_
          refine rd hA 4 (by cbv) ?_
          obtain ⟨m2, v3, u3⟩ : ∃ (m2 : ByteArray), m2 = (mt c_8) ∧ Real Tryz.prog 71 [.int .i64 c_8] (.str m2) := ⟨_, rfl, by exact r_laws_markText A hA c_8 z7 (le_k y3 e8)⟩
          refine dops_callV rfl rfl (by cbv) (by cbv) u3 (.inr rfl) ?_
          refine rd hA 1 (by cbv) (dd_ ?_)
          refine go_cond rfl (fun c16 => ?_) (fun c16 => ?_)
          ·
           exact no_t c16 (show (A.scmp .neq s_8 m2) = false from by subst hA; simp [std, x8, v3])
          ·
           refine gk (gr (ra hA 1 (by cbv) ?_))
           refine ops_step rfl rfl (int_add hA rfl rfl rfl t0) ?_
           refine ra hA 1 (by cbv) (od ?_)
           refine gr (ra hA 3 (by cbv) (od ?_))
           refine ⟨(S160_1 a_r c_9 (A.num .add .i64 n5 1)), List.length x - (i + 1), ?_, by cbv, i + 1, (A.num .add .i64 n5 1), c_9, rfl, ?_, rfl⟩
           ·
            exact hdec
           ·
            exact ⟨f4, hi1, fin_k s3 hr9 hrce hkk cat⟩
 ·
  have ec1 : (A.rlen a_r) ≤ n5 := lss_f hA c1
  refine go_exit ⟨fun _ => ?_, fun h => absurd rfl h⟩
  refine gs (gr (ra hA 2 (by cbv) (od ?_)))
  refine go_ret ⟨_, by cbv, ?_⟩
  show _ = (PV.int .i64 kk)
  refine congrArg (PV.int .i64) ?_
  rw [hkk, List.take_of_length_le (by omega)]
def S120_1 (p0 : RR) (p1 : Int) (p2 : Int) : St := { sl := [.sl 4 p0, .int .i64 p1, .bad, .bad, .bad, .int .i64 p2, .bad, .bad, .bad, .bad, .bad, .bad, .bad, .bad, .bad, .bad, .bad, .bad, .bad, .bad, .bad, .bad, .bad, .bad, .bad, .bad, .bad, .bad, .bad, .bad, .bad, .bad, .bad, .bad, .bad, .bad, .bad, .bad, .bad, .bad, .bad, .bad, .bad, .bad, .bad, .bad, .bad, .bad, .bad], bl := [] }
theorem r_laws_heldSegS (A : Alg) (hA : A = std) (x : List GSeg) (k : Int) (h0 : 0 ≤ k) (h1 : k + cnSegS x ≤ 1099511627776) : Real Tryz.prog 120 [.sl 4 (List.map eSeg (mkSegS k x)), .int .i64 k] (.int .i64 (k + cnSegS x)) := by
 obtain ⟨a_r, b1⟩ := nm (List.map eSeg (mkSegS k x))
 have l5 : A.rlen a_r = (List.length x : Int) := by rw [rlen_map hA b1, mkSegS_len]
 have h2 : (List.length x : Int) ≤ 1099511627776 := by have := cnSegS_ge x; omega
 refine real_args (args' := [.sl 4 a_r, .int .i64 k]) (by subst b1; rfl) ?_
 refine real tyOk Tryz.func120 (by kernel_rfl) (afun_of rfl ?_)
 refine gs (gr (ra hA 1 (by cbv) (od ?_)))
 refine gs (gs (gr (ra hA 1 (by cbv) (od ?_))))
 refine go_block ?_
 refine go_loopE (fun σ m => ∃ (i : Nat) (n5 : Int) (kk : Int), σ = (S120_1 a_r kk n5) ∧ (n5 = (i : Int) ∧ i ≤ List.length x ∧ kk = k + cnSegS (x.take i)) ∧ m = List.length x - i) _ [] [0, 1, 5] [] (S120_1 a_r k 0) rfl (by cbv) ⟨0, 0, k, rfl, ?_, rfl⟩ (fun σ m hI => ?_)
 ·
  exact ⟨rfl, Nat.zero_le _, by simp [cnSegS]⟩
 obtain ⟨i, n5, kk, rfl, ⟨hn5, hi, hkk⟩, rfl⟩ := hI
 refine gs (gs (gr (ra hA 4 (by cbv) (od ?_))))
 refine go_cond rfl (fun c1 => ?_) (fun c1 => ?_)
 ·
  have ec1 : n5 < (A.rlen a_r) := lss_t hA c1
  refine gk (gs ?_)
  refine go_block ?_
  refine gs (gs ?_)
  have h05 : (0 : Int) ≤ n5 := by omega
  have hlt : i < List.length x := by omega
  obtain ⟨y, hyi⟩ : ∃ y, x[i]? = some y := ⟨_, List.getElem?_eq_getElem hlt⟩
  have cat := cnSegS_at hyi
  have cle := cnSegS_le x (i + 1)
  have cnn := cnSegS_nn (x.take i)
  have hro := mkSegS_get k hyi
  rw [← hkk] at hro
  obtain ⟨u9, q7, q2, f0⟩ := y
  have cce : ceSeg (⟨u9, q7, q2, f0⟩ : GSeg) = 1 + 1 + 1 + cnItemS f0 := rfl
  have n8 := cnItemS_nn f0
  obtain ⟨r4, hr4, e4⟩ : ∃ r : Int, r = 0 ∧ 0 ≤ r := ⟨0, rfl, by decide⟩
  obtain ⟨r3, hr3, e3⟩ : ∃ r : Int, r = cnItemS f0 + r4 ∧ 0 ≤ r := ⟨_, rfl, nn_add n8 e4⟩
  obtain ⟨r2, hr2, e2⟩ : ∃ r : Int, r = 1 + r3 ∧ 0 ≤ r := ⟨_, rfl, nn_add (by decide) e3⟩
  obtain ⟨r1, hr1, e1⟩ : ∃ r : Int, r = 1 + r2 ∧ 0 ≤ r := ⟨_, rfl, nn_add (by decide) e2⟩
  obtain ⟨r0, hr0, e0⟩ : ∃ r : Int, r = 1 + r1 ∧ 0 ≤ r := ⟨_, rfl, nn_add (by decide) e1⟩
  have p0 : 0 ≤ kk := by clear hr4 e4 hr3 e3 hr2 e2 hr1 e1 hr0 e0; omega
  have hrce : r0 = ceSeg (⟨u9, q7, q2, f0⟩ : GSeg) := by subst hr4 hr3 hr2 hr1 hr0; rw [cce]; omega
  have q0 : kk + r0 ≤ 1099511627776 ∧ kk + r0 = kk + r0 := ⟨by clear hr4 e4 hr3 e3 hr2 e2 hr1 e1 hr0 e0; omega, rfl⟩
  have l7 : n5 < (List.length x : Int) := by clear hr4 e4 hr3 e3 hr2 e2 hr1 e1 hr0 e0; omega
  have hi1 : i + 1 ≤ List.length x := by clear hr4 e4 hr3 e3 hr2 e2 hr1 e1 hr0 e0; omega
  have f4 : A.num .add .i64 n5 1 = ((i + 1 : Nat) : Int) := by
   clear hr4 e4 hr3 e3 hr2 e2 hr1 e1 hr0 e0; rw [add_i64 hA (by omega) (by omega)]; omega
  have hdec : List.length x - (i + 1) < List.length x - i := by clear hr4 e4 hr3 e3 hr2 e2 hr1 e1 hr0 e0; omega
  obtain ⟨c_1, f6, d5, f5, d7⟩ := add_one hA p0 q0 hr0 e1
  obtain ⟨c_2, i5, g0, g1, f9⟩ := add_one hA f5 d7 hr1 e2
  obtain ⟨c_3, k4, g7, j7, i8⟩ := add_one hA g1 f9 hr2 e3
  obtain ⟨s_3, u2⟩ := nm (List.map eItem (mkItemS c_3 f0))
  have D5 : A.rlen s_3 = (List.length f0 : Int) := by rw [rlen_map hA u2, mkItemS_len]
  obtain ⟨c_4, u1⟩ := nm (c_3 + cnItemS f0)
  have w7 := add_cn u1 j7 i8 hr3 n8
  have hrow : ([.int .i64 kk, .int .i64 c_1, .int .i64 c_2, .sl 9 s_3] : List PV) = eSeg (meSeg kk (⟨u9, q7, q2, f0⟩ : GSeg)) := by
   subst f6 i5 k4 u1
   show _ = ([_, _, _, _] : List PV)
   exact congr (congrArg List.cons (congrArg (PV.int .i64) rfl)) (congr (congrArg List.cons (congrArg (PV.int .i64) rfl)) (congr (congrArg List.cons (congrArg (PV.int .i64) rfl)) (congr (congrArg List.cons (congrArg (PV.sl 9) u2)) (rfl))))
  have hget : a_r[(Int.toNat n5)]? = some [.int .i64 kk, .int .i64 c_1, .int .i64 c_2, .sl 9 s_3] := by
   rw [hrow, hn5]; exact map_at eSeg b1 hro
  refine gr (ra hA 2 (by cbv) ?_)
  refine ops_step rfl rfl (idx_sl rfl rfl rfl rfl rfl h05 rfl hget) ?_
  refine ra hA 4 (by cbv) (od ?_)
  refine go_cond rfl (fun c2 => ?_) (fun c2 => ?_)
  ·
   exact no_t c2 (show (A.cmp .neq kk kk) = false from by subst hA; simp [std])
  ·
   refine gk (gs (gr (ra hA 1 (by cbv) ?_)))
   refine ops_step rfl rfl (int_add hA rfl rfl rfl d5) ?_
   refine ra hA 1 (by cbv) (od ?_)
   refine gs (gs (gr (ra hA 2 (by cbv) ?_)))
   refine ops_step rfl rfl (idx_sl rfl rfl rfl rfl rfl h05 rfl hget) ?_
   refine ra hA 4 (by cbv) (od ?_)
   refine go_cond rfl (fun c3 => ?_) (fun c3 => ?_)
   ·
    exact no_t c3 (show (A.cmp .neq c_1 c_1) = false from by subst hA; simp [std])
   ·
    refine gk (gs (gr (ra hA 1 (by cbv) ?_)))
    refine ops_step rfl rfl (int_add hA rfl rfl rfl g0) ?_
    refine ra hA 1 (by cbv) (od ?_)
    refine gs (gs (gr (ra hA 2 (by cbv) ?_)))
    refine ops_step rfl rfl (idx_sl rfl rfl rfl rfl rfl h05 rfl hget) ?_
    refine ra hA 4 (by cbv) (od ?_)
    refine go_cond rfl (fun c4 => ?_) (fun c4 => ?_)
    ·
     exact no_t c4 (show (A.cmp .neq c_2 c_2) = false from by subst hA; simp [std])
    ·
     refine gk (gs (gr (ra hA 1 (by cbv) ?_)))
     refine ops_step rfl rfl (int_add hA rfl rfl rfl g7) ?_
     refine ra hA 1 (by cbv) (od ?_)
     refine gs (gr (ra hA 2 (by cbv) ?_))
     refine ops_step rfl rfl (idx_sl rfl rfl rfl rfl rfl h05 rfl hget) ?_
     refine ra hA 3 (by cbv) ?_
     have hc6 : Real Tryz.prog 160 [.sl 9 s_3, .int .i64 c_3] (.int .i64 c_4) := by
      subst u2; rw [u1]; exact r_laws_heldItemS A hA f0 c_3 j7 (le_cn i8 hr3 e4)
     refine ops_callV rfl rfl (by cbv) (by cbv) hc6 (.inl trivial) (by cbv) ?_
     refine ra hA 1 (by cbv) (od ?_)
     refine gs (gr (ra hA 2 (by cbv) (od ?_)))
     refine go_cond rfl (fun c7 => ?_) (fun c7 => ?_)
     ·
      have ec7 : c_4 < 0 := lss_t hA c7
      exact absurd ec7 (Int.not_lt.2 w7.1)
     ·
      have ec7 : 0 ≤ c_4 := lss_f hA c7
      refine gk (gr (ra hA 3 (by cbv) (od ?_)))
      refine ⟨(S120_1 a_r c_4 (A.num .add .i64 n5 1)), List.length x - (i + 1), ?_, by cbv, i + 1, (A.num .add .i64 n5 1), c_4, rfl, ?_, rfl⟩
      ·
       exact hdec
      ·
       exact ⟨f4, hi1, fin_k w7.2 hr4 hrce hkk cat⟩
 ·
  have ec1 : (A.rlen a_r) ≤ n5 := lss_f hA c1
  refine go_exit ⟨fun _ => ?_, fun h => absurd rfl h⟩
  refine gs (gr (ra hA 2 (by cbv) (od ?_)))
  refine go_ret ⟨_, by cbv, ?_⟩
  show _ = (PV.int .i64 kk)
  refine congrArg (PV.int .i64) ?_
  rw [hkk, List.take_of_length_le (by omega)]
def S98_1 (p0 : RR) (p1 : Int) (p2 : Int) : St := { sl := [.sl 5 p0, .int .i64 p1, .bad, .bad, .bad, .int .i64 p2, .bad, .bad, .bad, .bad, .bad, .bad, .bad, .bad, .bad, .bad, .bad, .bad, .bad, .bad, .bad, .bad, .bad, .bad, .bad, .bad, .bad, .bad, .bad, .bad, .bad, .bad, .bad, .bad, .bad, .bad, .bad, .bad, .bad, .bad, .bad, .bad, .bad, .bad, .bad, .bad, .bad, .bad, .bad, .bad, .bad, .bad, .bad, .bad, .bad, .bad, .bad, .bad, .bad, .bad], bl := [] }
theorem r_laws_heldBoxS (A : Alg) (hA : A = std) (x : List GBox) (k : Int) (h0 : 0 ≤ k) (h1 : k + cnBoxS x ≤ 1099511627776) : Real Tryz.prog 98 [.sl 5 (List.map eBox (mkBoxS k x)), .int .i64 k] (.int .i64 (k + cnBoxS x)) := by
 obtain ⟨a_r, b1⟩ := nm (List.map eBox (mkBoxS k x))
 have l5 : A.rlen a_r = (List.length x : Int) := by rw [rlen_map hA b1, mkBoxS_len]
 have h2 : (List.length x : Int) ≤ 1099511627776 := by have := cnBoxS_ge x; omega
 refine real_args (args' := [.sl 5 a_r, .int .i64 k]) (by subst b1; rfl) ?_
 refine real tyOk Tryz.func98 (by kernel_rfl) (afun_of rfl ?_)
 refine gs (gr (ra hA 1 (by cbv) (od ?_)))
 refine gs (gs (gr (ra hA 1 (by cbv) (od ?_))))
 refine go_block ?_
 refine go_loopE (fun σ m => ∃ (i : Nat) (n5 : Int) (kk : Int), σ = (S98_1 a_r kk n5) ∧ (n5 = (i : Int) ∧ i ≤ List.length x ∧ kk = k + cnBoxS (x.take i)) ∧ m = List.length x - i) _ [] [0, 1, 5] [] (S98_1 a_r k 0) rfl (by cbv) ⟨0, 0, k, rfl, ?_, rfl⟩ (fun σ m hI => ?_)
 ·
  exact ⟨rfl, Nat.zero_le _, by simp [cnBoxS]⟩
 obtain ⟨i, n5, kk, rfl, ⟨hn5, hi, hkk⟩, rfl⟩ := hI
 refine gs (gs (gr (ra hA 4 (by cbv) (od ?_))))
 refine go_cond rfl (fun c1 => ?_) (fun c1 => ?_)
 ·
  have ec1 : n5 < (A.rlen a_r) := lss_t hA c1
  refine gk (gs ?_)
  refine go_block ?_
  refine gs (gs ?_)
  have h05 : (0 : Int) ≤ n5 := by omega
  have hlt : i < List.length x := by omega
  obtain ⟨y, hyi⟩ : ∃ y, x[i]? = some y := ⟨_, List.getElem?_eq_getElem hlt⟩
  have cat := cnBoxS_at hyi
  have cle := cnBoxS_le x (i + 1)
  have cnn := cnBoxS_nn (x.take i)
  have hro := mkBoxS_get k hyi
  rw [← hkk] at hro
  obtain ⟨n4, p3, p5, o7, d9⟩ := y
  have cce : ceBox (⟨n4, p3, p5, o7, d9⟩ : GBox) = 1 + 1 + 1 + 1 + cnMailS d9 := rfl
  have n9 := cnMailS_nn d9
  obtain ⟨r5, hr5, e5⟩ : ∃ r : Int, r = 0 ∧ 0 ≤ r := ⟨0, rfl, by decide⟩
  obtain ⟨r4, hr4, e4⟩ : ∃ r : Int, r = cnMailS d9 + r5 ∧ 0 ≤ r := ⟨_, rfl, nn_add n9 e5⟩
  obtain ⟨r3, hr3, e3⟩ : ∃ r : Int, r = 1 + r4 ∧ 0 ≤ r := ⟨_, rfl, nn_add (by decide) e4⟩
  obtain ⟨r2, hr2, e2⟩ : ∃ r : Int, r = 1 + r3 ∧ 0 ≤ r := ⟨_, rfl, nn_add (by decide) e3⟩
  obtain ⟨r1, hr1, e1⟩ : ∃ r : Int, r = 1 + r2 ∧ 0 ≤ r := ⟨_, rfl, nn_add (by decide) e2⟩
  obtain ⟨r0, hr0, e0⟩ : ∃ r : Int, r = 1 + r1 ∧ 0 ≤ r := ⟨_, rfl, nn_add (by decide) e1⟩
  have p0 : 0 ≤ kk := by clear hr5 e5 hr4 e4 hr3 e3 hr2 e2 hr1 e1 hr0 e0; omega
  have hrce : r0 = ceBox (⟨n4, p3, p5, o7, d9⟩ : GBox) := by subst hr5 hr4 hr3 hr2 hr1 hr0; rw [cce]; omega
  have q0 : kk + r0 ≤ 1099511627776 ∧ kk + r0 = kk + r0 := ⟨by clear hr5 e5 hr4 e4 hr3 e3 hr2 e2 hr1 e1 hr0 e0; omega, rfl⟩
  have l7 : n5 < (List.length x : Int) := by clear hr5 e5 hr4 e4 hr3 e3 hr2 e2 hr1 e1 hr0 e0; omega
  have hi1 : i + 1 ≤ List.length x := by clear hr5 e5 hr4 e4 hr3 e3 hr2 e2 hr1 e1 hr0 e0; omega
  have f4 : A.num .add .i64 n5 1 = ((i + 1 : Nat) : Int) := by
   clear hr5 e5 hr4 e4 hr3 e3 hr2 e2 hr1 e1 hr0 e0; rw [add_i64 hA (by omega) (by omega)]; omega
  have hdec : List.length x - (i + 1) < List.length x - i := by clear hr5 e5 hr4 e4 hr3 e3 hr2 e2 hr1 e1 hr0 e0; omega
  obtain ⟨c_1, f6, d5, f5, d7⟩ := add_one hA p0 q0 hr0 e1
  obtain ⟨s_1, l3⟩ := nm (mt c_1)
  obtain ⟨c_2, i5, g0, g1, f9⟩ := add_one hA f5 d7 hr1 e2
  obtain ⟨s_2, l0⟩ := nm (mt c_2)
  obtain ⟨c_3, k4, g7, j7, i8⟩ := add_one hA g1 f9 hr2 e3
  obtain ⟨c_4, o6, m9, n2, n3⟩ := add_one hA j7 i8 hr3 e4
  obtain ⟨s_4, u6⟩ := nm (List.map eMail (mkMailS c_4 d9))
  have D6 : A.rlen s_4 = (List.length d9 : Int) := by rw [rlen_map hA u6, mkMailS_len]
  obtain ⟨c_5, u5⟩ := nm (c_4 + cnMailS d9)
  have w8 := add_cn u5 n2 n3 hr4 n9
  have hrow : ([.int .i64 kk, .str s_1, .str s_2, .int .i64 c_3, .sl 3 s_4] : List PV) = eBox (meBox kk (⟨n4, p3, p5, o7, d9⟩ : GBox)) := by
   subst f6 i5 k4 o6 u5
   show _ = ([_, _, _, _, _] : List PV)
   exact congr (congrArg List.cons (congrArg (PV.int .i64) rfl)) (congr (congrArg List.cons (congrArg PV.str l3)) (congr (congrArg List.cons (congrArg PV.str l0)) (congr (congrArg List.cons (congrArg (PV.int .i64) rfl)) (congr (congrArg List.cons (congrArg (PV.sl 3) u6)) (rfl)))))
  have hget : a_r[(Int.toNat n5)]? = some [.int .i64 kk, .str s_1, .str s_2, .int .i64 c_3, .sl 3 s_4] := by
   rw [hrow, hn5]; exact map_at eBox b1 hro
  refine gr (ra hA 2 (by cbv) ?_)
  refine ops_step rfl rfl (idx_sl rfl rfl rfl rfl rfl h05 rfl hget) ?_
  refine ra hA 4 (by cbv) (od ?_)
  refine go_cond rfl (fun c2 => ?_) (fun c2 => ?_)
  ·
   exact no_t c2 (show (A.cmp .neq kk kk) = false from by subst hA; simp [std])
  ·
   refine gk (gs (gr (ra hA 1 (by cbv) ?_)))
   refine ops_step rfl rfl (int_add hA rfl rfl rfl d5) ?_
   refine ra hA 1 (by cbv) (od ?_)
   refine gs (gs ?_)
   refine go_draw (by cbv) ?_
   refine rd hA 2 (by cbv) ?_
   refine dops_step rfl rfl rfl (idx_sl rfl rfl rfl rfl rfl h05 rfl hget) ?_
   refine rd hA 3 (by cbv) ?_
   obtain ⟨f1, l2, hc4⟩ : ∃ (f1 : ByteArray), f1 = (mt c_1) ∧ Real Tryz.prog 71 [.int .i64 c_1] (.str f1) := ⟨_, rfl, by exact r_laws_markText A hA c_1 f5 (le_k d7 e1)⟩
   refine dops_callV rfl rfl (by cbv) (by cbv) hc4 (.inr rfl) ?_
   refine rd hA 1 (by cbv) (dd_ ?_)
   refine go_cond rfl (fun c5 => ?_) (fun c5 => ?_)
   ·
    exact no_t c5 (show (A.scmp .neq s_1 f1) = false from by subst hA; simp [std, l3, l2])
   ·
    refine gk (gs (gr (ra hA 1 (by cbv) ?_)))
    refine ops_step rfl rfl (int_add hA rfl rfl rfl g0) ?_
    refine ra hA 1 (by cbv) (od ?_)
    refine gs (gs ?_)
    refine go_draw (by cbv) ?_
    refine rd hA 2 (by cbv) ?_
    refine dops_step rfl rfl rfl (idx_sl rfl rfl rfl rfl rfl h05 rfl hget) ?_
    refine rd hA 3 (by cbv) ?_
    obtain ⟨g6, o3, hc7⟩ : ∃ (g6 : ByteArray), g6 = (mt c_2) ∧ Real Tryz.prog 71 [.int .i64 c_2] (.str g6) := ⟨_, rfl, by exact r_laws_markText A hA c_2 g1 (le_k f9 e2)⟩
    refine dops_callV rfl rfl (by cbv) (by cbv) hc7 (.inr rfl) ?_
    refine rd hA 1 (by cbv) (dd_ ?_)
    refine go_cond rfl (fun c8 => ?_) (fun c8 => ?_)
    ·
     exact no_t c8 (show (A.scmp .neq s_2 g6) = false from by subst hA; simp [std, l0, o3])
    ·
     refine gk (gs (gr (ra hA 1 (by cbv) ?_)))
     refine ops_step rfl rfl (int_add hA rfl rfl rfl g7) ?_
     refine ra hA 1 (by cbv) (od ?_)
     refine gs (gs (gr (ra hA 2 (by cbv) ?_)))
     refine ops_step rfl rfl (idx_sl rfl rfl rfl rfl rfl h05 rfl hget) ?_
     refine ra hA 4 (by cbv) (od ?_)
     refine go_cond rfl (fun c9 => ?_) (fun c9 => ?_)
     ·
      exact no_t c9 (show (A.cmp .neq c_3 c_3) = false from by subst hA; simp [std])
     ·
      refine gk (gs (gr (ra hA 1 (by cbv) ?_)))
      refine ops_step rfl rfl (int_add hA rfl rfl rfl m9) ?_
      refine ra hA 1 (by cbv) (od ?_)
      refine gs (gr (ra hA 2 (by cbv) ?_))
      refine ops_step rfl rfl (idx_sl rfl rfl rfl rfl rfl h05 rfl hget) ?_
      refine ra hA 3 (by cbv) ?_
      have C7 : Real Tryz.prog 78 [.sl 3 s_4, .int .i64 c_4] (.int .i64 c_5) := by
       subst u6; rw [u5]; exact r_laws_heldMailS A hA d9 c_4 n2 (le_cn n3 hr4 e5)
      refine ops_callV rfl rfl (by cbv) (by cbv) C7 (.inl trivial) (by cbv) ?_
      refine ra hA 1 (by cbv) (od ?_)
      refine gs (gr (ra hA 2 (by cbv) (od ?_)))
      refine go_cond rfl (fun c12 => ?_) (fun c12 => ?_)
      ·
       have y5 : c_5 < 0 := lss_t hA c12
       exact absurd y5 (Int.not_lt.2 w8.1)
      ·
       have y5 : 0 ≤ c_5 := lss_f hA c12
       refine gk (gr (ra hA 3 (by cbv) (od ?_)))
       refine ⟨(S98_1 a_r c_5 (A.num .add .i64 n5 1)), List.length x - (i + 1), ?_, by cbv, i + 1, (A.num .add .i64 n5 1), c_5, rfl, ?_, rfl⟩
       ·
        exact hdec
       ·
        exact ⟨f4, hi1, fin_k w8.2 hr5 hrce hkk cat⟩
 ·
  have ec1 : (A.rlen a_r) ≤ n5 := lss_f hA c1
  refine go_exit ⟨fun _ => ?_, fun h => absurd rfl h⟩
  refine gs (gr (ra hA 2 (by cbv) (od ?_)))
  refine go_ret ⟨_, by cbv, ?_⟩
  show _ = (PV.int .i64 kk)
  refine congrArg (PV.int .i64) ?_
  rw [hkk, List.take_of_length_le (by omega)]
def S39_1 (p0 : RR) (p1 : Int) (p2 : Int) : St := { sl := [.sl 17 p0, .int .i64 p1, .bad, .bad, .bad, .int .i64 p2, .bad, .bad, .bad, .bad, .bad, .bad, .bad, .bad, .bad, .bad, .bad, .bad, .bad, .bad, .bad, .bad, .bad, .bad, .bad, .bad, .bad, .bad, .bad, .bad, .bad, .bad, .bad, .bad, .bad, .bad, .bad, .bad, .bad, .bad, .bad, .bad, .bad, .bad, .bad, .bad, .bad, .bad, .bad, .bad, .bad, .bad, .bad, .bad, .bad, .bad, .bad, .bad, .bad, .bad, .bad, .bad, .bad, .bad, .bad, .bad, .bad, .bad, .bad, .bad, .bad, .bad, .bad, .bad, .bad, .bad, .bad, .bad, .bad, .bad, .bad, .bad, .bad, .bad, .bad, .bad, .bad, .bad, .bad, .bad, .bad, .bad, .bad, .bad, .bad, .bad, .bad, .bad, .bad, .bad, .bad, .bad, .bad, .bad, .bad, .bad, .bad, .bad, .bad, .bad, .bad, .bad, .bad, .bad, .bad, .bad, .bad, .bad, .bad, .bad, .bad, .bad, .bad, .bad, .bad, .bad, .bad, .bad, .bad, .bad, .bad, .bad, .bad, .bad, .bad, .bad, .bad, .bad, .bad, .bad, .bad, .bad, .bad, .bad, .bad, .bad, .bad, .bad, .bad, .bad, .bad, .bad, .bad, .bad, .bad, .bad, .bad, .bad, .bad, .bad, .bad, .bad, .bad, .bad, .bad, .bad, .bad, .bad, .bad, .bad, .bad, .bad, .bad, .bad, .bad, .bad, .bad, .bad, .bad, .bad, .bad, .bad, .bad, .bad, .bad, .bad, .bad], bl := [] }
theorem r_laws_heldSessionS (A : Alg) (hA : A = std) (x : List GSession) (k : Int) (h0 : 0 ≤ k) (h1 : k + cnSessionS x ≤ 1099511627776) : Real Tryz.prog 39 [.sl 17 (List.map eSession (mkSessionS k x)), .int .i64 k] (.int .i64 (k + cnSessionS x)) := by
 obtain ⟨a_r, b1⟩ := nm (List.map eSession (mkSessionS k x))
 have l5 : A.rlen a_r = (List.length x : Int) := by rw [rlen_map hA b1, mkSessionS_len]
 have h2 : (List.length x : Int) ≤ 1099511627776 := by have := cnSessionS_ge x; omega
 refine real_args (args' := [.sl 17 a_r, .int .i64 k]) (by subst b1; rfl) ?_
 refine real tyOk Tryz.func39 (by kernel_rfl) (afun_of rfl ?_)
 refine gs (gr (ra hA 1 (by cbv) (od ?_)))
 refine gs (gs (gr (ra hA 1 (by cbv) (od ?_))))
 refine go_block ?_
 refine go_loopE (fun σ m => ∃ (i : Nat) (n5 : Int) (kk : Int), σ = (S39_1 a_r kk n5) ∧ (n5 = (i : Int) ∧ i ≤ List.length x ∧ kk = k + cnSessionS (x.take i)) ∧ m = List.length x - i) _ [] [0, 1, 5] [] (S39_1 a_r k 0) rfl (by cbv) ⟨0, 0, k, rfl, ?_, rfl⟩ (fun σ m hI => ?_)
 ·
  exact ⟨rfl, Nat.zero_le _, by simp [cnSessionS]⟩
 obtain ⟨i, n5, kk, rfl, ⟨hn5, hi, hkk⟩, rfl⟩ := hI
 refine gs (gs (gr (ra hA 4 (by cbv) (od ?_))))
 refine go_cond rfl (fun c1 => ?_) (fun c1 => ?_)
 ·
  have ec1 : n5 < (A.rlen a_r) := lss_t hA c1
  refine gk (gs ?_)
  refine go_block ?_
  refine gs (gs ?_)
  have h05 : (0 : Int) ≤ n5 := by omega
  have hlt : i < List.length x := by omega
  obtain ⟨y, hyi⟩ : ∃ y, x[i]? = some y := ⟨_, List.getElem?_eq_getElem hlt⟩
  have cat := cnSessionS_at hyi
  have cle := cnSessionS_le x (i + 1)
  have cnn := cnSessionS_nn (x.take i)
  have hro := mkSessionS_get k hyi
  rw [← hkk] at hro
  obtain ⟨p4, v0, p8, o5, ⟨g3, i4, c0, b6⟩, ⟨g4, i3, b2, b5⟩, ⟨i1, j0, k6, i6, b7⟩⟩ := y
  have cce : ceSession (⟨p4, v0, p8, o5, ⟨g3, i4, c0, b6⟩, ⟨g4, i3, b2, b5⟩, ⟨i1, j0, k6, i6, b7⟩⟩ : GSession) = 1 + 1 + 1 + 1 + 1 + 1 + cnStringS c0 + cnStringS b6 + 1 + 1 + cnMailS b2 + cnBoolS b5 + 1 + 1 + 1 + 1 + cnIntS b7 := rfl
  have l9 := cnStringS_nn c0
  have j5 := cnStringS_nn b6
  have i7 := cnMailS_nn b2
  have j3 := cnBoolS_nn b5
  have k7 := cnIntS_nn b7
  obtain ⟨r17, k8, e17⟩ : ∃ r : Int, r = 0 ∧ 0 ≤ r := ⟨0, rfl, by decide⟩
  obtain ⟨r16, j6, e16⟩ : ∃ r : Int, r = cnIntS b7 + r17 ∧ 0 ≤ r := ⟨_, rfl, nn_add k7 e17⟩
  obtain ⟨r15, l8, e15⟩ : ∃ r : Int, r = 1 + r16 ∧ 0 ≤ r := ⟨_, rfl, nn_add (by decide) e16⟩
  obtain ⟨r14, k9, e14⟩ : ∃ r : Int, r = 1 + r15 ∧ 0 ≤ r := ⟨_, rfl, nn_add (by decide) e15⟩
  obtain ⟨r13, l6, e13⟩ : ∃ r : Int, r = 1 + r14 ∧ 0 ≤ r := ⟨_, rfl, nn_add (by decide) e14⟩
  obtain ⟨r12, l4, e12⟩ : ∃ r : Int, r = 1 + r13 ∧ 0 ≤ r := ⟨_, rfl, nn_add (by decide) e13⟩
  obtain ⟨r11, k0, e11⟩ : ∃ r : Int, r = cnBoolS b5 + r12 ∧ 0 ≤ r := ⟨_, rfl, nn_add j3 e12⟩
  obtain ⟨r10, k2, e10⟩ : ∃ r : Int, r = cnMailS b2 + r11 ∧ 0 ≤ r := ⟨_, rfl, nn_add i7 e11⟩
  obtain ⟨r9, hr9, e9⟩ : ∃ r : Int, r = 1 + r10 ∧ 0 ≤ r := ⟨_, rfl, nn_add (by decide) e10⟩
  obtain ⟨r8, hr8, e8⟩ : ∃ r : Int, r = 1 + r9 ∧ 0 ≤ r := ⟨_, rfl, nn_add (by decide) e9⟩
  obtain ⟨r7, hr7, e7⟩ : ∃ r : Int, r = cnStringS b6 + r8 ∧ 0 ≤ r := ⟨_, rfl, nn_add j5 e8⟩
  obtain ⟨r6, hr6, e6⟩ : ∃ r : Int, r = cnStringS c0 + r7 ∧ 0 ≤ r := ⟨_, rfl, nn_add l9 e7⟩
  obtain ⟨r5, hr5, e5⟩ : ∃ r : Int, r = 1 + r6 ∧ 0 ≤ r := ⟨_, rfl, nn_add (by decide) e6⟩
  obtain ⟨r4, hr4, e4⟩ : ∃ r : Int, r = 1 + r5 ∧ 0 ≤ r := ⟨_, rfl, nn_add (by decide) e5⟩
  obtain ⟨r3, hr3, e3⟩ : ∃ r : Int, r = 1 + r4 ∧ 0 ≤ r := ⟨_, rfl, nn_add (by decide) e4⟩
  obtain ⟨r2, hr2, e2⟩ : ∃ r : Int, r = 1 + r3 ∧ 0 ≤ r := ⟨_, rfl, nn_add (by decide) e3⟩
  obtain ⟨r1, hr1, e1⟩ : ∃ r : Int, r = 1 + r2 ∧ 0 ≤ r := ⟨_, rfl, nn_add (by decide) e2⟩
  obtain ⟨r0, hr0, e0⟩ : ∃ r : Int, r = 1 + r1 ∧ 0 ≤ r := ⟨_, rfl, nn_add (by decide) e1⟩
  have p0 : 0 ≤ kk := by clear k8 e17 j6 e16 l8 e15 k9 e14 l6 e13 l4 e12 k0 e11 k2 e10 hr9 e9 hr8 e8 hr7 e7 hr6 e6 hr5 e5 hr4 e4 hr3 e3 hr2 e2 hr1 e1 hr0 e0; omega
  have hrce : r0 = ceSession (⟨p4, v0, p8, o5, ⟨g3, i4, c0, b6⟩, ⟨g4, i3, b2, b5⟩, ⟨i1, j0, k6, i6, b7⟩⟩ : GSession) := by subst k8 j6 l8 k9 l6 l4 k0 k2 hr9 hr8 hr7 hr6 hr5 hr4 hr3 hr2 hr1 hr0; rw [cce]; omega
  have q0 : kk + r0 ≤ 1099511627776 ∧ kk + r0 = kk + r0 := ⟨by clear k8 e17 j6 e16 l8 e15 k9 e14 l6 e13 l4 e12 k0 e11 k2 e10 hr9 e9 hr8 e8 hr7 e7 hr6 e6 hr5 e5 hr4 e4 hr3 e3 hr2 e2 hr1 e1 hr0 e0; omega, rfl⟩
  have l7 : n5 < (List.length x : Int) := by clear k8 e17 j6 e16 l8 e15 k9 e14 l6 e13 l4 e12 k0 e11 k2 e10 hr9 e9 hr8 e8 hr7 e7 hr6 e6 hr5 e5 hr4 e4 hr3 e3 hr2 e2 hr1 e1 hr0 e0; omega
  have hi1 : i + 1 ≤ List.length x := by clear k8 e17 j6 e16 l8 e15 k9 e14 l6 e13 l4 e12 k0 e11 k2 e10 hr9 e9 hr8 e8 hr7 e7 hr6 e6 hr5 e5 hr4 e4 hr3 e3 hr2 e2 hr1 e1 hr0 e0; omega
  have f4 : A.num .add .i64 n5 1 = ((i + 1 : Nat) : Int) := by
   clear k8 e17 j6 e16 l8 e15 k9 e14 l6 e13 l4 e12 k0 e11 k2 e10 hr9 e9 hr8 e8 hr7 e7 hr6 e6 hr5 e5 hr4 e4 hr3 e3 hr2 e2 hr1 e1 hr0 e0; rw [add_i64 hA (by omega) (by omega)]; omega
  have hdec : List.length x - (i + 1) < List.length x - i := by clear k8 e17 j6 e16 l8 e15 k9 e14 l6 e13 l4 e12 k0 e11 k2 e10 hr9 e9 hr8 e8 hr7 e7 hr6 e6 hr5 e5 hr4 e4 hr3 e3 hr2 e2 hr1 e1 hr0 e0; omega
  obtain ⟨c_1, f6, d5, f5, d7⟩ := add_one hA p0 q0 hr0 e1
  obtain ⟨s_1, l3⟩ := nm (mt c_1)
  obtain ⟨c_2, i5, g0, g1, f9⟩ := add_one hA f5 d7 hr1 e2
  obtain ⟨s_2, l0⟩ := nm (mt c_2)
  obtain ⟨c_3, k4, g7, j7, i8⟩ := add_one hA g1 f9 hr2 e3
  obtain ⟨c_4, o6, m9, n2, n3⟩ := add_one hA j7 i8 hr3 e4
  obtain ⟨c_5, v2, s7, s2, q9⟩ := add_one hA n2 n3 hr4 e5
  obtain ⟨s_5, z3⟩ := nm (mt c_5)
  obtain ⟨c_6, w1, q8, p6, o8⟩ := add_one hA s2 q9 hr5 e6
  obtain ⟨s_6, n1⟩ := nm (List.map eString (mkStringS c_6 c0))
  have D3 : A.rlen s_6 = (List.length c0 : Int) := by rw [rlen_map hA n1, mkStringS_len]
  obtain ⟨c_7, v9⟩ := nm (c_6 + cnStringS c0)
  have m8 := add_cn v9 p6 o8 hr6 l9
  obtain ⟨s_7, n7⟩ := nm (List.map eString (mkStringS c_7 b6))
  have D4 : A.rlen s_7 = (List.length b6 : Int) := by rw [rlen_map hA n7, mkStringS_len]
  obtain ⟨c_8, u0⟩ := nm (c_7 + cnStringS b6)
  have p7 := add_cn u0 m8.1 m8.2 hr7 j5
  obtain ⟨c_9, u4, t0, v7, s3⟩ := add_one hA p7.1 p7.2 hr8 e9
  obtain ⟨s_9, y4⟩ := nm (mt c_9)
  obtain ⟨s4, B4, z8, x1, x0⟩ := add_one hA v7 s3 hr9 e10
  obtain ⟨s0, q5⟩ := nm (List.map eMail (mkMailS s4 b2))
  have D1 : A.rlen s0 = (List.length b2 : Int) := by rw [rlen_map hA q5, mkMailS_len]
  obtain ⟨m6, s9⟩ := nm (s4 + cnMailS b2)
  have l1 := add_cn s9 x1 x0 k2 i7
  obtain ⟨s1, q6⟩ := nm (List.map eBool (mkBoolS m6 b5))
  have D2 : A.rlen s1 = (List.length b5 : Int) := by rw [rlen_map hA q6, mkBoolS_len]
  obtain ⟨m5, t1⟩ := nm (m6 + cnBoolS b5)
  have o9 := add_cn t1 l1.1 l1.2 k0 j3
  obtain ⟨t6, B5, z4, w9, x2⟩ := add_one hA o9.1 o9.2 l4 e13
  obtain ⟨v4, w6⟩ := nm (mt t6)
  obtain ⟨t4, B0, z0, x3, w3⟩ := add_one hA w9 x2 l6 e14
  obtain ⟨w0, w2⟩ := nm (mt t4)
  obtain ⟨s8, B7, z5, B8, B1⟩ := add_one hA x3 w3 k9 e15
  obtain ⟨t2, B2, z9, w4, w5⟩ := add_one hA B8 B1 l8 e16
  obtain ⟨t5, p9⟩ := nm (List.map eInt (mkIntS t2 b7))
  have D0 : A.rlen t5 = (List.length b7 : Int) := by rw [rlen_map hA p9, mkIntS_len]
  obtain ⟨o4, s6⟩ := nm (t2 + cnIntS b7)
  have t9 := add_cn s6 w4 w5 j6 k7
  have hrow : ([.int .i64 kk, .str s_1, .str s_2, .bool (A.cmp .eql (A.num .rem .i64 c_3 3) 0), .int .i64 c_4, .str s_5, .sl 1 s_6, .sl 1 s_7, .int .i64 c_8, .str s_9, .sl 3 s0, .sl 1 s1, .int .i64 m5, .str v4, .str w0, .int .i64 s8, .sl 1 t5] : List PV) = eSession (meSession kk (⟨p4, v0, p8, o5, ⟨g3, i4, c0, b6⟩, ⟨g4, i3, b2, b5⟩, ⟨i1, j0, k6, i6, b7⟩⟩ : GSession)) := by
   subst f6 i5 k4 o6 v2 w1 v9 u0 u4 B4 s9 t1 B5 B0 B7 B2 s6
   show _ = ([_, _, _, _, _, _, _, _, _, _, _, _, _, _, _, _, _] : List PV)
   exact congr (congrArg List.cons (congrArg (PV.int .i64) rfl)) (congr (congrArg List.cons (congrArg PV.str l3)) (congr (congrArg List.cons (congrArg PV.str l0)) (congr (congrArg List.cons (congrArg PV.bool (mb_eq hA rfl))) (congr (congrArg List.cons (congrArg (PV.int .i64) rfl)) (congr (congrArg List.cons (congrArg PV.str z3)) (congr (congrArg List.cons (congrArg (PV.sl 1) n1)) (congr (congrArg List.cons (congrArg (PV.sl 1) n7)) (congr (congrArg List.cons (congrArg (PV.int .i64) rfl)) (congr (congrArg List.cons (congrArg PV.str y4)) (congr (congrArg List.cons (congrArg (PV.sl 3) q5)) (congr (congrArg List.cons (congrArg (PV.sl 1) q6)) (congr (congrArg List.cons (congrArg (PV.int .i64) rfl)) (congr (congrArg List.cons (congrArg PV.str w6)) (congr (congrArg List.cons (congrArg PV.str w2)) (congr (congrArg List.cons (congrArg (PV.int .i64) rfl)) (congr (congrArg List.cons (congrArg (PV.sl 1) p9)) (rfl)))))))))))))))))
  have hget : a_r[(Int.toNat n5)]? = some [.int .i64 kk, .str s_1, .str s_2, .bool (A.cmp .eql (A.num .rem .i64 c_3 3) 0), .int .i64 c_4, .str s_5, .sl 1 s_6, .sl 1 s_7, .int .i64 c_8, .str s_9, .sl 3 s0, .sl 1 s1, .int .i64 m5, .str v4, .str w0, .int .i64 s8, .sl 1 t5] := by
   rw [hrow, hn5]; exact map_at eSession b1 hro
  refine gr (ra hA 2 (by cbv) ?_)
  refine ops_step rfl rfl (idx_sl rfl rfl rfl rfl rfl h05 rfl hget) ?_
  refine ra hA 4 (by cbv) (od ?_)
  refine go_cond rfl (fun c2 => ?_) (fun c2 => ?_)
  ·
   exact no_t c2 (show (A.cmp .neq kk kk) = false from by subst hA; simp [std])
  ·
   refine gk (gs (gr (ra hA 1 (by cbv) ?_)))
   refine ops_step rfl rfl (int_add hA rfl rfl rfl d5) ?_
   refine ra hA 1 (by cbv) (od ?_)
   refine gs (gs ?_)
   refine go_draw (by cbv) ?_
   refine rd hA 2 (by cbv) ?_
   refine dops_step rfl rfl rfl (idx_sl rfl rfl rfl rfl rfl h05 rfl hget) ?_
   refine rd hA 3 (by cbv) ?_
   obtain ⟨f1, l2, hc4⟩ : ∃ (f1 : ByteArray), f1 = (mt c_1) ∧ Real Tryz.prog 71 [.int .i64 c_1] (.str f1) := ⟨_, rfl, by exact r_laws_markText A hA c_1 f5 (le_k d7 e1)⟩
   refine dops_callV rfl rfl (by cbv) (by cbv) hc4 (.inr rfl) ?_
   refine rd hA 1 (by cbv) (dd_ ?_)
   refine go_cond rfl (fun c5 => ?_) (fun c5 => ?_)
   ·
    exact no_t c5 (show (A.scmp .neq s_1 f1) = false from by subst hA; simp [std, l3, l2])
   ·
    refine gk (gs (gr (ra hA 1 (by cbv) ?_)))
    refine ops_step rfl rfl (int_add hA rfl rfl rfl g0) ?_
    refine ra hA 1 (by cbv) (od ?_)
    refine gs (gs ?_)
    refine go_draw (by cbv) ?_
    refine rd hA 2 (by cbv) ?_
    refine dops_step rfl rfl rfl (idx_sl rfl rfl rfl rfl rfl h05 rfl hget) ?_
    refine rd hA 3 (by cbv) ?_
    obtain ⟨g6, o3, hc7⟩ : ∃ (g6 : ByteArray), g6 = (mt c_2) ∧ Real Tryz.prog 71 [.int .i64 c_2] (.str g6) := ⟨_, rfl, by exact r_laws_markText A hA c_2 g1 (le_k f9 e2)⟩
    refine dops_callV rfl rfl (by cbv) (by cbv) hc7 (.inr rfl) ?_
    refine rd hA 1 (by cbv) (dd_ ?_)
    refine go_cond rfl (fun c8 => ?_) (fun c8 => ?_)
    ·
     exact no_t c8 (show (A.scmp .neq s_2 g6) = false from by subst hA; simp [std, l0, o3])
    ·
     refine gk (gs (gr (ra hA 1 (by cbv) ?_)))
     refine ops_step rfl rfl (int_add hA rfl rfl rfl g7) ?_
     refine ra hA 1 (by cbv) (od ?_)
     refine gs (gs (gr (ra hA 2 (by cbv) ?_)))
     refine ops_step rfl rfl (idx_sl rfl rfl rfl rfl rfl h05 rfl hget) ?_
     refine ra hA 6 (by cbv) (od ?_)
     refine go_cond rfl (fun c9 => ?_) (fun c9 => ?_)
     ·
      exact no_t c9 (show (A.bnot (A.beq (A.cmp .eql (A.num .rem .i64 c_3 3) 0) (A.cmp .eql (A.num .rem .i64 c_3 3) 0))) = false from by subst hA; simp [std])
     ·
      refine gk (gs (gr (ra hA 1 (by cbv) ?_)))
      refine ops_step rfl rfl (int_add hA rfl rfl rfl m9) ?_
      refine ra hA 1 (by cbv) (od ?_)
      refine gs (gs (gr (ra hA 2 (by cbv) ?_)))
      refine ops_step rfl rfl (idx_sl rfl rfl rfl rfl rfl h05 rfl hget) ?_
      refine ra hA 5 (by cbv) (od ?_)
      refine go_cond rfl (fun c10 => ?_) (fun c10 => ?_)
      ·
       exact no_t c10 (show (A.cmp .neq c_4 c_4) = false from by subst hA; simp [std])
      ·
       refine gk (gs (gr (ra hA 1 (by cbv) ?_)))
       refine ops_step rfl rfl (int_add hA rfl rfl rfl s7) ?_
       refine ra hA 1 (by cbv) (od ?_)
       refine gs (gs ?_)
       refine go_draw (by cbv) ?_
       refine rd hA 2 (by cbv) ?_
       refine dops_step rfl rfl rfl (idx_sl rfl rfl rfl rfl rfl h05 rfl hget) ?_
       refine rd hA 4 (by cbv) ?_
       obtain ⟨n0, x5, v5⟩ : ∃ (n0 : ByteArray), n0 = (mt c_5) ∧ Real Tryz.prog 71 [.int .i64 c_5] (.str n0) := ⟨_, rfl, by exact r_laws_markText A hA c_5 s2 (le_k q9 e5)⟩
       refine dops_callV rfl rfl (by cbv) (by cbv) v5 (.inr rfl) ?_
       refine rd hA 1 (by cbv) (dd_ ?_)
       refine go_cond rfl (fun c13 => ?_) (fun c13 => ?_)
       ·
        exact no_t c13 (show (A.scmp .neq s_5 n0) = false from by subst hA; simp [std, z3, x5])
       ·
        refine gk (gs (gr (ra hA 1 (by cbv) ?_)))
        refine ops_step rfl rfl (int_add hA rfl rfl rfl q8) ?_
        refine ra hA 1 (by cbv) (od ?_)
        refine gs (gr (ra hA 2 (by cbv) ?_))
        refine ops_step rfl rfl (idx_sl rfl rfl rfl rfl rfl h05 rfl hget) ?_
        refine ra hA 4 (by cbv) ?_
        have u3 : Real Tryz.prog 77 [.sl 1 s_6, .int .i64 c_6] (.int .i64 c_7) := by
         subst n1; rw [v9]; exact r_laws_heldStringS A hA c0 c_6 p6 (le_cn o8 hr6 e7)
        refine ops_callV rfl rfl (by cbv) (by cbv) u3 (.inl trivial) (by cbv) ?_
        refine ra hA 1 (by cbv) (od ?_)
        refine gs (gs (gr (ra hA 2 (by cbv) (od ?_))))
        refine go_cond rfl (fun c16 => ?_) (fun c16 => ?_)
        ·
         have x9 : c_7 < 0 := lss_t hA c16
         exact absurd x9 (Int.not_lt.2 m8.1)
        ·
         have x9 : 0 ≤ c_7 := lss_f hA c16
         refine gk (gs (gr (ra hA 2 (by cbv) ?_)))
         refine ops_step rfl rfl (idx_sl rfl rfl rfl rfl rfl h05 rfl hget) ?_
         refine ra hA 4 (by cbv) ?_
         have C5 : Real Tryz.prog 77 [.sl 1 s_7, .int .i64 c_7] (.int .i64 c_8) := by
          subst n7; rw [u0]; exact r_laws_heldStringS A hA b6 c_7 m8.1 (le_cn m8.2 hr7 e8)
         refine ops_callV rfl rfl (by cbv) (by cbv) C5 (.inl trivial) (by cbv) ?_
         refine ra hA 1 (by cbv) (od ?_)
         refine gs (gs (gr (ra hA 2 (by cbv) (od ?_))))
         refine go_cond rfl (fun c19 => ?_) (fun c19 => ?_)
         ·
          have y1 : c_8 < 0 := lss_t hA c19
          exact absurd y1 (Int.not_lt.2 p7.1)
         ·
          have y1 : 0 ≤ c_8 := lss_f hA c19
          refine gk (gs (gs (gr (ra hA 2 (by cbv) ?_))))
          refine ops_step rfl rfl (idx_sl rfl rfl rfl rfl rfl h05 rfl hget) ?_
          refine ra hA 5 (by cbv) (od ?_)
          refine go_cond rfl (fun c20 => ?_) (fun c20 => ?_)
          ·
           exact no_t c20 (show (A.cmp .neq c_8 c_8) = false from by subst hA; simp [std])
          ·
           refine gk (gs (gr (ra hA 1 (by cbv) ?_)))
           refine ops_step rfl rfl (int_add hA rfl rfl rfl t0) ?_
           refine ra hA 1 (by cbv) (od ?_)
           refine gs (gs ?_)
           refine go_draw (by cbv) ?_
           refine rd hA 2 (by cbv) ?_
           refine dops_step rfl rfl rfl (idx_sl rfl rfl rfl rfl rfl h05 rfl hget) ?_
           refine rd hA 4 (by cbv) ?_
           obtain ⟨m4, u8, C8⟩ : ∃ (m4 : ByteArray), m4 = (mt c_9) ∧ Real Tryz.prog 71 [.int .i64 c_9] (.str m4) := ⟨_, rfl, by exact r_laws_markText A hA c_9 v7 (le_k s3 e9)⟩
           refine dops_callV rfl rfl (by cbv) (by cbv) C8 (.inr rfl) ?_
           refine rd hA 1 (by cbv) (dd_ ?_)
           refine go_cond rfl (fun c23 => ?_) (fun c23 => ?_)
           ·
            exact no_t c23 (show (A.scmp .neq s_9 m4) = false from by subst hA; simp [std, y4, u8])
           ·
            refine gk (gs (gr (ra hA 1 (by cbv) ?_)))
            refine ops_step rfl rfl (int_add hA rfl rfl rfl z8) ?_
            refine ra hA 1 (by cbv) (od ?_)
            refine gs (gr (ra hA 2 (by cbv) ?_))
            refine ops_step rfl rfl (idx_sl rfl rfl rfl rfl rfl h05 rfl hget) ?_
            refine ra hA 4 (by cbv) ?_
            have B9 : Real Tryz.prog 78 [.sl 3 s0, .int .i64 s4] (.int .i64 m6) := by
             subst q5; rw [s9]; exact r_laws_heldMailS A hA b2 s4 x1 (le_cn x0 k2 e11)
            refine ops_callV rfl rfl (by cbv) (by cbv) B9 (.inl trivial) (by cbv) ?_
            refine ra hA 1 (by cbv) (od ?_)
            refine gs (gs (gr (ra hA 2 (by cbv) (od ?_))))
            refine go_cond rfl (fun c26 => ?_) (fun c26 => ?_)
            ·
             have x7 : m6 < 0 := lss_t hA c26
             exact absurd x7 (Int.not_lt.2 l1.1)
            ·
             have x7 : 0 ≤ m6 := lss_f hA c26
             refine gk (gs (gr (ra hA 2 (by cbv) ?_)))
             refine ops_step rfl rfl (idx_sl rfl rfl rfl rfl rfl h05 rfl hget) ?_
             refine ra hA 4 (by cbv) ?_
             have C4 : Real Tryz.prog 79 [.sl 1 s1, .int .i64 m6] (.int .i64 m5) := by
              subst q6; rw [t1]; exact r_laws_heldBoolS A hA b5 m6 l1.1 (le_cn l1.2 k0 e12)
             refine ops_callV rfl rfl (by cbv) (by cbv) C4 (.inl trivial) (by cbv) ?_
             refine ra hA 1 (by cbv) (od ?_)
             refine gs (gs (gr (ra hA 2 (by cbv) (od ?_))))
             refine go_cond rfl (fun c29 => ?_) (fun c29 => ?_)
             ·
              have y2 : m5 < 0 := lss_t hA c29
              exact absurd y2 (Int.not_lt.2 o9.1)
             ·
              have y2 : 0 ≤ m5 := lss_f hA c29
              refine gk (gs (gs (gr (ra hA 2 (by cbv) ?_))))
              refine ops_step rfl rfl (idx_sl rfl rfl rfl rfl rfl h05 rfl hget) ?_
              refine ra hA 5 (by cbv) (od ?_)
              refine go_cond rfl (fun c30 => ?_) (fun c30 => ?_)
              ·
               exact no_t c30 (show (A.cmp .neq m5 m5) = false from by subst hA; simp [std])
              ·
               refine gk (gs (gr (ra hA 1 (by cbv) ?_)))
               refine ops_step rfl rfl (int_add hA rfl rfl rfl z4) ?_
               refine ra hA 1 (by cbv) (od ?_)
               refine gs (gs ?_)
               refine go_draw (by cbv) ?_
               refine rd hA 2 (by cbv) ?_
               refine dops_step rfl rfl rfl (idx_sl rfl rfl rfl rfl rfl h05 rfl hget) ?_
               refine rd hA 4 (by cbv) ?_
               obtain ⟨m3, u7, C3⟩ : ∃ (m3 : ByteArray), m3 = (mt t6) ∧ Real Tryz.prog 71 [.int .i64 t6] (.str m3) := ⟨_, rfl, by exact r_laws_markText A hA t6 w9 (le_k x2 e13)⟩
               refine dops_callV rfl rfl (by cbv) (by cbv) C3 (.inr rfl) ?_
               refine rd hA 1 (by cbv) (dd_ ?_)
               refine go_cond rfl (fun c33 => ?_) (fun c33 => ?_)
               ·
                exact no_t c33 (show (A.scmp .neq v4 m3) = false from by subst hA; simp [std, w6, u7])
               ·
                refine gk (gs (gr (ra hA 1 (by cbv) ?_)))
                refine ops_step rfl rfl (int_add hA rfl rfl rfl z0) ?_
                refine ra hA 1 (by cbv) (od ?_)
                refine gs (gs ?_)
                refine go_draw (by cbv) ?_
                refine rd hA 2 (by cbv) ?_
                refine dops_step rfl rfl rfl (idx_sl rfl rfl rfl rfl rfl h05 rfl hget) ?_
                refine rd hA 4 (by cbv) ?_
                obtain ⟨m1, v8, C1⟩ : ∃ (m1 : ByteArray), m1 = (mt t4) ∧ Real Tryz.prog 71 [.int .i64 t4] (.str m1) := ⟨_, rfl, by exact r_laws_markText A hA t4 x3 (le_k w3 e14)⟩
                refine dops_callV rfl rfl (by cbv) (by cbv) C1 (.inr rfl) ?_
                refine rd hA 1 (by cbv) (dd_ ?_)
                refine go_cond rfl (fun c36 => ?_) (fun c36 => ?_)
                ·
                 exact no_t c36 (show (A.scmp .neq w0 m1) = false from by subst hA; simp [std, w2, v8])
                ·
                 refine gk (gs (gr (ra hA 1 (by cbv) ?_)))
                 refine ops_step rfl rfl (int_add hA rfl rfl rfl z5) ?_
                 refine ra hA 1 (by cbv) (od ?_)
                 refine gs (gs (gr (ra hA 2 (by cbv) ?_)))
                 refine ops_step rfl rfl (idx_sl rfl rfl rfl rfl rfl h05 rfl hget) ?_
                 refine ra hA 5 (by cbv) (od ?_)
                 refine go_cond rfl (fun c37 => ?_) (fun c37 => ?_)
                 ·
                  exact no_t c37 (show (A.cmp .neq s8 s8) = false from by subst hA; simp [std])
                 ·
                  refine gk (gs (gr (ra hA 1 (by cbv) ?_)))
                  refine ops_step rfl rfl (int_add hA rfl rfl rfl z9) ?_
                  refine ra hA 1 (by cbv) (od ?_)
                  refine gs (gr (ra hA 2 (by cbv) ?_))
                  refine ops_step rfl rfl (idx_sl rfl rfl rfl rfl rfl h05 rfl hget) ?_
                  refine ra hA 4 (by cbv) ?_
                  have C0 : Real Tryz.prog 76 [.sl 1 t5, .int .i64 t2] (.int .i64 o4) := by
                   subst p9; rw [s6]; exact r_laws_heldIntS A hA b7 t2 w4 (le_cn w5 j6 e17)
                  refine ops_callV rfl rfl (by cbv) (by cbv) C0 (.inl trivial) (by cbv) ?_
                  refine ra hA 1 (by cbv) (od ?_)
                  refine gs (gr (ra hA 2 (by cbv) (od ?_)))
                  refine go_cond rfl (fun c40 => ?_) (fun c40 => ?_)
                  ·
                   have y6 : o4 < 0 := lss_t hA c40
                   exact absurd y6 (Int.not_lt.2 t9.1)
                  ·
                   have y6 : 0 ≤ o4 := lss_f hA c40
                   refine gk (gr (ra hA 3 (by cbv) (od ?_)))
                   refine ⟨(S39_1 a_r o4 (A.num .add .i64 n5 1)), List.length x - (i + 1), ?_, by cbv, i + 1, (A.num .add .i64 n5 1), o4, rfl, ?_, rfl⟩
                   ·
                    exact hdec
                   ·
                    exact ⟨f4, hi1, fin_k t9.2 k8 hrce hkk cat⟩
 ·
  have ec1 : (A.rlen a_r) ≤ n5 := lss_f hA c1
  refine go_exit ⟨fun _ => ?_, fun h => absurd rfl h⟩
  refine gs (gr (ra hA 2 (by cbv) (od ?_)))
  refine go_ret ⟨_, by cbv, ?_⟩
  show _ = (PV.int .i64 kk)
  refine congrArg (PV.int .i64) ?_
  rw [hkk, List.take_of_length_le (by omega)]
theorem r_laws_heldDisk (A : Alg) (hA : A = std) (x : GDisk) (k : Int) (h0 : 0 ≤ k) (h1 : k + cnDisk x ≤ 1099511627776) : Real Tryz.prog 119 [.agg (eDisk (mkDisk k x)), .int .i64 k] (.int .i64 (k + cnStringS x.Sectors + cnWriteS x.Cache)) := by
 obtain ⟨f3, g8⟩ := x
 obtain ⟨a0, ha0⟩ := nm (List.map eString (mkStringS (k) f3))
 have nn0 := cnStringS_nn f3
 obtain ⟨a1, ha1⟩ := nm (List.map eWrite (mkWriteS (k + cnStringS f3) g8))
 have nn1 := cnWriteS_nn g8
 have h1 : k + (cnStringS f3 + cnWriteS g8) ≤ 1099511627776 := h1
 refine real_args (args' := [.agg [.sl 1 a0, .sl 2 a1], .int .i64 k]) (by subst ha0 ha1; rfl) ?_
 refine real tyOk Tryz.func119 (by kernel_rfl) (afun_of rfl ?_)
 refine gs (gr (ra hA 2 (by cbv) (od ?_)))
 refine gs (gr (ra hA 3 (by cbv) ?_))
 have C9 := cnStringS_nn f3
 obtain ⟨q1, hq1, hc2⟩ : ∃ q : Int, q = k + cnStringS f3 ∧ Real Tryz.prog 77 [.sl 1 a0, .int .i64 k] (.int .i64 q) := ⟨_, rfl, by
  subst ha0; exact r_laws_heldStringS A hA f3 k (by omega) (by omega)⟩
 have nq1 : 0 ≤ q1 := by omega
 refine ops_callV rfl rfl (by cbv) (by cbv) hc2 (.inl trivial) (by cbv) ?_
 refine ra hA 1 (by cbv) (od ?_)
 refine gs (gs (gr (ra hA 2 (by cbv) (od ?_))))
 refine go_cond rfl (fun c3 => ?_) (fun c3 => ?_)
 ·
  have ec3 : q1 < 0 := lss_t hA c3
  exact absurd ec3 (Int.not_lt.2 nq1)
 ·
  have ec3 : 0 ≤ q1 := lss_f hA c3
  refine gk (gs (gr (ra hA 3 (by cbv) ?_)))
  have q3 := cnWriteS_nn g8
  obtain ⟨q4, hq4, hc5⟩ : ∃ q : Int, q = q1 + cnWriteS g8 ∧ Real Tryz.prog 159 [.sl 2 a1, .int .i64 q1] (.int .i64 q) := ⟨_, rfl, by
   subst ha1; subst hq1; exact r_laws_heldWriteS A hA g8 _ (by omega) (by omega)⟩
  have nq4 : 0 ≤ q4 := by omega
  refine ops_callV rfl rfl (by cbv) (by cbv) hc5 (.inl trivial) (by cbv) ?_
  refine ra hA 1 (by cbv) (od ?_)
  refine gs (gs (gr (ra hA 2 (by cbv) (od ?_))))
  refine go_cond rfl (fun c6 => ?_) (fun c6 => ?_)
  ·
   have ec6 : q4 < 0 := lss_t hA c6
   exact absurd ec6 (Int.not_lt.2 nq4)
  ·
   have ec6 : 0 ≤ q4 := lss_f hA c6
   refine gk (gs (gr (ra hA 2 (by cbv) (od ?_))))
   refine go_ret ⟨_, by cbv, ?_⟩
   show _ = (PV.int .i64 q4)
   subst hq1 hq4
   rfl
theorem r_laws_heldLog (A : Alg) (hA : A = std) (x : GLog) (k : Int) (h0 : 0 ≤ k) (h1 : k + cnLog x ≤ 1099511627776) : Real Tryz.prog 75 [.agg (eLog (mkLog k x)), .int .i64 k] (.int .i64 (k + cnStringS x.Disk.Sectors + cnWriteS x.Disk.Cache + cnSegS x.Used)) := by
 obtain ⟨⟨b3, d0⟩, z6, j4, t8, t7, x4, j1⟩ := x
 obtain ⟨a0, ha0⟩ := nm (List.map eString (mkStringS (k) b3))
 have nn0 := cnStringS_nn b3
 obtain ⟨a1, ha1⟩ := nm (List.map eWrite (mkWriteS (k + cnStringS b3) d0))
 have nn1 := cnWriteS_nn d0
 obtain ⟨a3, ha3⟩ := nm (List.map eSeg (mkSegS (k + cnStringS b3 + cnWriteS d0) j4))
 have nn3 := cnSegS_nn j4
 have h1 : k + (cnStringS b3 + cnWriteS d0 + cnSegS j4) ≤ 1099511627776 := h1
 refine real_args (args' := [.agg [.sl 1 a0, .sl 2 a1, .int .i64 z6, .sl 4 a3, .int .i64 t8, .int .i64 t7, .int .i64 x4, .int .i64 j1], .int .i64 k]) (by subst ha0 ha1 ha3; rfl) ?_
 refine real tyOk Tryz.func75 (by kernel_rfl) (afun_of rfl ?_)
 refine gs (gr (ra hA 2 (by cbv) (od ?_)))
 refine gs (gr (ra hA 3 (by cbv) ?_))
 have v6 : cnDisk (⟨b3, d0⟩ : GDisk) = cnStringS b3 + cnWriteS d0 := rfl
 obtain ⟨q1, hq1, hc2⟩ : ∃ q : Int, q = k + cnStringS b3 + cnWriteS d0 ∧ Real Tryz.prog 119 [.agg [.sl 1 a0, .sl 2 a1], .int .i64 k] (.int .i64 q) := ⟨_, rfl, by
  subst ha0 ha1; exact r_laws_heldDisk A hA (⟨b3, d0⟩ : GDisk) k (by omega) (by omega)⟩
 have nq1 : 0 ≤ q1 := by omega
 refine ops_callV rfl rfl (by cbv) (by cbv) hc2 (.inl trivial) (by cbv) ?_
 refine ra hA 1 (by cbv) (od ?_)
 refine gs (gs (gr (ra hA 2 (by cbv) (od ?_))))
 refine go_cond rfl (fun c3 => ?_) (fun c3 => ?_)
 ·
  have ec3 : q1 < 0 := lss_t hA c3
  exact absurd ec3 (Int.not_lt.2 nq1)
 ·
  have ec3 : 0 ≤ q1 := lss_f hA c3
  refine gk (gs (gr (ra hA 3 (by cbv) ?_)))
  have q3 := cnSegS_nn j4
  obtain ⟨q4, hq4, hc5⟩ : ∃ q : Int, q = q1 + cnSegS j4 ∧ Real Tryz.prog 120 [.sl 4 a3, .int .i64 q1] (.int .i64 q) := ⟨_, rfl, by
   subst ha3; subst hq1; exact r_laws_heldSegS A hA j4 _ (by omega) (by omega)⟩
  have nq4 : 0 ≤ q4 := by omega
  refine ops_callV rfl rfl (by cbv) (by cbv) hc5 (.inl trivial) (by cbv) ?_
  refine ra hA 1 (by cbv) (od ?_)
  refine gs (gs (gr (ra hA 2 (by cbv) (od ?_))))
  refine go_cond rfl (fun c6 => ?_) (fun c6 => ?_)
  ·
   have ec6 : q4 < 0 := lss_t hA c6
   exact absurd ec6 (Int.not_lt.2 nq4)
  ·
   have ec6 : 0 ≤ q4 := lss_f hA c6
   refine gk (gs (gr (ra hA 2 (by cbv) (od ?_))))
   refine go_ret ⟨_, by cbv, ?_⟩
   show _ = (PV.int .i64 q4)
   subst hq1 hq4
   rfl
theorem r_laws_heldStore (A : Alg) (hA : A = std) (x : GStore) (k : Int) (h0 : 0 ≤ k) (h1 : k + cnStore x ≤ 1099511627776) : Real Tryz.prog 38 [.agg (eStore (mkStore k x)), .int .i64 k] (.int .i64 (k + cnStringS x.Log.Disk.Sectors + cnWriteS x.Log.Disk.Cache + cnSegS x.Log.Used + cnIntS x.Freed)) := by
 obtain ⟨⟨⟨a6, b0⟩, g5, d4, f8, f7, g2, f2⟩, i0⟩ := x
 obtain ⟨a0, ha0⟩ := nm (List.map eString (mkStringS (k) a6))
 have nn0 := cnStringS_nn a6
 obtain ⟨a1, ha1⟩ := nm (List.map eWrite (mkWriteS (k + cnStringS a6) b0))
 have nn1 := cnWriteS_nn b0
 obtain ⟨a3, ha3⟩ := nm (List.map eSeg (mkSegS (k + cnStringS a6 + cnWriteS b0) d4))
 have nn3 := cnSegS_nn d4
 obtain ⟨a8, ha8⟩ := nm (List.map eInt (mkIntS (k + cnStringS a6 + cnWriteS b0 + cnSegS d4) i0))
 have nn8 := cnIntS_nn i0
 have h1 : k + (cnStringS a6 + cnWriteS b0 + cnSegS d4 + cnIntS i0) ≤ 1099511627776 := h1
 refine real_args (args' := [.agg [.sl 1 a0, .sl 2 a1, .int .i64 g5, .sl 4 a3, .int .i64 f8, .int .i64 f7, .int .i64 g2, .int .i64 f2, .sl 1 a8], .int .i64 k]) (by subst ha0 ha1 ha3 ha8; rfl) ?_
 refine real tyOk Tryz.func38 (by kernel_rfl) (afun_of rfl ?_)
 refine gs (gr (ra hA 2 (by cbv) (od ?_)))
 refine gs (gr (ra hA 3 (by cbv) ?_))
 have v6 : cnLog (⟨⟨a6, b0⟩, g5, d4, f8, f7, g2, f2⟩ : GLog) = cnStringS a6 + cnWriteS b0 + cnSegS d4 := rfl
 obtain ⟨q1, hq1, hc2⟩ : ∃ q : Int, q = k + cnStringS a6 + cnWriteS b0 + cnSegS d4 ∧ Real Tryz.prog 75 [.agg [.sl 1 a0, .sl 2 a1, .int .i64 g5, .sl 4 a3, .int .i64 f8, .int .i64 f7, .int .i64 g2, .int .i64 f2], .int .i64 k] (.int .i64 q) := ⟨_, rfl, by
  subst ha0 ha1 ha3; exact r_laws_heldLog A hA (⟨⟨a6, b0⟩, g5, d4, f8, f7, g2, f2⟩ : GLog) k (by omega) (by omega)⟩
 have nq1 : 0 ≤ q1 := by omega
 refine ops_callV rfl rfl (by cbv) (by cbv) hc2 (.inl trivial) (by cbv) ?_
 refine ra hA 1 (by cbv) (od ?_)
 refine gs (gs (gr (ra hA 2 (by cbv) (od ?_))))
 refine go_cond rfl (fun c3 => ?_) (fun c3 => ?_)
 ·
  have ec3 : q1 < 0 := lss_t hA c3
  exact absurd ec3 (Int.not_lt.2 nq1)
 ·
  have ec3 : 0 ≤ q1 := lss_f hA c3
  refine gk (gs (gr (ra hA 3 (by cbv) ?_)))
  have q3 := cnIntS_nn i0
  obtain ⟨q4, hq4, hc5⟩ : ∃ q : Int, q = q1 + cnIntS i0 ∧ Real Tryz.prog 76 [.sl 1 a8, .int .i64 q1] (.int .i64 q) := ⟨_, rfl, by
   subst ha8; subst hq1; exact r_laws_heldIntS A hA i0 _ (by omega) (by omega)⟩
  have nq4 : 0 ≤ q4 := by omega
  refine ops_callV rfl rfl (by cbv) (by cbv) hc5 (.inl trivial) (by cbv) ?_
  refine ra hA 1 (by cbv) (od ?_)
  refine gs (gs (gr (ra hA 2 (by cbv) (od ?_))))
  refine go_cond rfl (fun c6 => ?_) (fun c6 => ?_)
  ·
   have ec6 : q4 < 0 := lss_t hA c6
   exact absurd ec6 (Int.not_lt.2 nq4)
  ·
   have ec6 : 0 ≤ q4 := lss_f hA c6
   refine gk (gs (gr (ra hA 2 (by cbv) (od ?_))))
   refine go_ret ⟨_, by cbv, ?_⟩
   show _ = (PV.int .i64 q4)
   subst hq1 hq4
   rfl
theorem r_laws_heldServer (A : Alg) (hA : A = std) (x : GServer) (k : Int) (h0 : 0 ≤ k) (h1 : k + cnServer x ≤ 1099511627776) : Real Tryz.prog 13 [.agg (eServer (mkServer k x)), .int .i64 k] (.int .i64 (k + cnStringS x.Store.Log.Disk.Sectors + cnWriteS x.Store.Log.Disk.Cache + cnSegS x.Store.Log.Used + cnIntS x.Store.Freed + cnSessionS x.Sessions)) := by
 obtain ⟨⟨⟨⟨a4, a5⟩, d8, a7, d3, d2, d6, d1⟩, b8⟩, b4⟩ := x
 obtain ⟨a0, ha0⟩ := nm (List.map eString (mkStringS (k) a4))
 have nn0 := cnStringS_nn a4
 obtain ⟨a1, ha1⟩ := nm (List.map eWrite (mkWriteS (k + cnStringS a4) a5))
 have nn1 := cnWriteS_nn a5
 obtain ⟨a3, ha3⟩ := nm (List.map eSeg (mkSegS (k + cnStringS a4 + cnWriteS a5) a7))
 have nn3 := cnSegS_nn a7
 obtain ⟨a8, ha8⟩ := nm (List.map eInt (mkIntS (k + cnStringS a4 + cnWriteS a5 + cnSegS a7) b8))
 have nn8 := cnIntS_nn b8
 obtain ⟨a9, ha9⟩ := nm (List.map eSession (mkSessionS (k + cnStringS a4 + cnWriteS a5 + cnSegS a7 + cnIntS b8) b4))
 have nn9 := cnSessionS_nn b4
 have h1 : k + (cnStringS a4 + cnWriteS a5 + cnSegS a7 + cnIntS b8 + cnSessionS b4) ≤ 1099511627776 := h1
 refine real_args (args' := [.agg [.sl 1 a0, .sl 2 a1, .int .i64 d8, .sl 4 a3, .int .i64 d3, .int .i64 d2, .int .i64 d6, .int .i64 d1, .sl 1 a8, .sl 17 a9], .int .i64 k]) (by subst ha0 ha1 ha3 ha8 ha9; rfl) ?_
 refine real tyOk Tryz.func13 (by kernel_rfl) (afun_of rfl ?_)
 refine gs (gr (ra hA 2 (by cbv) (od ?_)))
 refine gs (gr (ra hA 3 (by cbv) ?_))
 have v6 : cnStore (⟨⟨⟨a4, a5⟩, d8, a7, d3, d2, d6, d1⟩, b8⟩ : GStore) = cnStringS a4 + cnWriteS a5 + cnSegS a7 + cnIntS b8 := rfl
 obtain ⟨q1, hq1, hc2⟩ : ∃ q : Int, q = k + cnStringS a4 + cnWriteS a5 + cnSegS a7 + cnIntS b8 ∧ Real Tryz.prog 38 [.agg [.sl 1 a0, .sl 2 a1, .int .i64 d8, .sl 4 a3, .int .i64 d3, .int .i64 d2, .int .i64 d6, .int .i64 d1, .sl 1 a8], .int .i64 k] (.int .i64 q) := ⟨_, rfl, by
  subst ha0 ha1 ha3 ha8; exact r_laws_heldStore A hA (⟨⟨⟨a4, a5⟩, d8, a7, d3, d2, d6, d1⟩, b8⟩ : GStore) k (by omega) (by omega)⟩
 have nq1 : 0 ≤ q1 := by omega
 refine ops_callV rfl rfl (by cbv) (by cbv) hc2 (.inl trivial) (by cbv) ?_
 refine ra hA 1 (by cbv) (od ?_)
 refine gs (gs (gr (ra hA 2 (by cbv) (od ?_))))
 refine go_cond rfl (fun c3 => ?_) (fun c3 => ?_)
 ·
  have ec3 : q1 < 0 := lss_t hA c3
  exact absurd ec3 (Int.not_lt.2 nq1)
 ·
  have ec3 : 0 ≤ q1 := lss_f hA c3
  refine gk (gs (gr (ra hA 3 (by cbv) ?_)))
  have q3 := cnSessionS_nn b4
  obtain ⟨q4, hq4, hc5⟩ : ∃ q : Int, q = q1 + cnSessionS b4 ∧ Real Tryz.prog 39 [.sl 17 a9, .int .i64 q1] (.int .i64 q) := ⟨_, rfl, by
   subst ha9; subst hq1; exact r_laws_heldSessionS A hA b4 _ (by omega) (by omega)⟩
  have nq4 : 0 ≤ q4 := by omega
  refine ops_callV rfl rfl (by cbv) (by cbv) hc5 (.inl trivial) (by cbv) ?_
  refine ra hA 1 (by cbv) (od ?_)
  refine gs (gs (gr (ra hA 2 (by cbv) (od ?_))))
  refine go_cond rfl (fun c6 => ?_) (fun c6 => ?_)
  ·
   have ec6 : q4 < 0 := lss_t hA c6
   exact absurd ec6 (Int.not_lt.2 nq4)
  ·
   have ec6 : 0 ≤ q4 := lss_f hA c6
   refine gk (gs (gr (ra hA 2 (by cbv) (od ?_))))
   refine go_ret ⟨_, by cbv, ?_⟩
   show _ = (PV.int .i64 q4)
   subst hq1 hq4
   rfl
theorem r_laws_heldState (A : Alg) (hA : A = std) (x : GState) (k : Int) (h0 : 0 ≤ k) (h1 : k + cnState x ≤ 1099511627776) : Real Tryz.prog 54 [.agg (eState (mkState k x)), .int .i64 k] (.int .i64 (k + cnBoxS x.Boxes)) := by
 obtain ⟨g9⟩ := x
 obtain ⟨a0, ha0⟩ := nm (List.map eBox (mkBoxS (k) g9))
 have nn0 := cnBoxS_nn g9
 have h1 : k + (cnBoxS g9) ≤ 1099511627776 := h1
 refine real_args (args' := [.agg [.sl 5 a0], .int .i64 k]) (by subst ha0; rfl) ?_
 refine real tyOk Tryz.func54 (by kernel_rfl) (afun_of rfl ?_)
 refine gs (gr (ra hA 2 (by cbv) (od ?_)))
 refine gs (gr (ra hA 3 (by cbv) ?_))
 have C9 := cnBoxS_nn g9
 obtain ⟨q1, hq1, hc2⟩ : ∃ q : Int, q = k + cnBoxS g9 ∧ Real Tryz.prog 98 [.sl 5 a0, .int .i64 k] (.int .i64 q) := ⟨_, rfl, by
  subst ha0; exact r_laws_heldBoxS A hA g9 k (by omega) (by omega)⟩
 have nq1 : 0 ≤ q1 := by omega
 refine ops_callV rfl rfl (by cbv) (by cbv) hc2 (.inl trivial) (by cbv) ?_
 refine ra hA 1 (by cbv) (od ?_)
 refine gs (gs (gr (ra hA 2 (by cbv) (od ?_))))
 refine go_cond rfl (fun c3 => ?_) (fun c3 => ?_)
 ·
  have ec3 : q1 < 0 := lss_t hA c3
  exact absurd ec3 (Int.not_lt.2 nq1)
 ·
  have ec3 : 0 ≤ q1 := lss_f hA c3
  refine gk (gs (gr (ra hA 2 (by cbv) (od ?_))))
  refine go_ret ⟨_, by cbv, ?_⟩
  show _ = (PV.int .i64 q1)
  subst hq1
  rfl
theorem r_laws_heldPlain (A : Alg) (hA : A = std) (x : GPlain) (k : Int) (h0 : 0 ≤ k) (h1 : k + cnPlain x ≤ 1099511627776) : Real Tryz.prog 24 [.agg (ePlain (mkPlain k x)), .int .i64 k] (.int .i64 (k + cnBoxS x.State.Boxes + cnSessionS x.Sessions)) := by
 obtain ⟨⟨b9⟩, j1, b4⟩ := x
 obtain ⟨a0, ha0⟩ := nm (List.map eBox (mkBoxS (k) b9))
 have nn0 := cnBoxS_nn b9
 obtain ⟨a2, ha2⟩ := nm (List.map eSession (mkSessionS (k + cnBoxS b9) b4))
 have nn2 := cnSessionS_nn b4
 have h1 : k + (cnBoxS b9 + cnSessionS b4) ≤ 1099511627776 := h1
 refine real_args (args' := [.agg [.sl 5 a0, .int .i64 j1, .sl 17 a2], .int .i64 k]) (by subst ha0 ha2; rfl) ?_
 refine real tyOk Tryz.func24 (by kernel_rfl) (afun_of rfl ?_)
 refine gs (gr (ra hA 2 (by cbv) (od ?_)))
 refine gs (gr (ra hA 3 (by cbv) ?_))
 have v6 : cnState (⟨b9⟩ : GState) = cnBoxS b9 := rfl
 obtain ⟨q1, hq1, hc2⟩ : ∃ q : Int, q = k + cnBoxS b9 ∧ Real Tryz.prog 54 [.agg [.sl 5 a0], .int .i64 k] (.int .i64 q) := ⟨_, rfl, by
  subst ha0; exact r_laws_heldState A hA (⟨b9⟩ : GState) k (by omega) (by omega)⟩
 have nq1 : 0 ≤ q1 := by omega
 refine ops_callV rfl rfl (by cbv) (by cbv) hc2 (.inl trivial) (by cbv) ?_
 refine ra hA 1 (by cbv) (od ?_)
 refine gs (gs (gr (ra hA 2 (by cbv) (od ?_))))
 refine go_cond rfl (fun c3 => ?_) (fun c3 => ?_)
 ·
  have ec3 : q1 < 0 := lss_t hA c3
  exact absurd ec3 (Int.not_lt.2 nq1)
 ·
  have ec3 : 0 ≤ q1 := lss_f hA c3
  refine gk (gs (gr (ra hA 3 (by cbv) ?_)))
  have q3 := cnSessionS_nn b4
  obtain ⟨q4, hq4, hc5⟩ : ∃ q : Int, q = q1 + cnSessionS b4 ∧ Real Tryz.prog 39 [.sl 17 a2, .int .i64 q1] (.int .i64 q) := ⟨_, rfl, by
   subst ha2; subst hq1; exact r_laws_heldSessionS A hA b4 _ (by omega) (by omega)⟩
  have nq4 : 0 ≤ q4 := by omega
  refine ops_callV rfl rfl (by cbv) (by cbv) hc5 (.inl trivial) (by cbv) ?_
  refine ra hA 1 (by cbv) (od ?_)
  refine gs (gs (gr (ra hA 2 (by cbv) (od ?_))))
  refine go_cond rfl (fun c6 => ?_) (fun c6 => ?_)
  ·
   have ec6 : q4 < 0 := lss_t hA c6
   exact absurd ec6 (Int.not_lt.2 nq4)
  ·
   have ec6 : 0 ≤ q4 := lss_f hA c6
   refine gk (gs (gr (ra hA 2 (by cbv) (od ?_))))
   refine go_ret ⟨_, by cbv, ?_⟩
   show _ = (PV.int .i64 q4)
   subst hq1 hq4
   rfl
end Go.Av

/- Walks: what is held. -/
import Derived.Test.YtjbokkoiicoahaaM3
namespace Go.Av
open Go Go.Proofs
set_option maxRecDepth 100000
set_option maxHeartbeats 4000000
set_option linter.unusedVariables false
set_option linter.unusedSimpArgs false
def S117_1 (p0 : RR) (p1 : Int) (p2 : Int) : St := { sl := [.sl 1 p0, .int .i64 p1, .bad, .bad, .bad, .int .i64 p2, .bad, .bad, .bad, .bad, .bad, .bad, .bad, .bad, .bad, .bad, .bad, .bad, .bad, .bad, .bad, .bad], bl := [] }
theorem r_laws_heldStringS (A : Alg) (hA : A = std) (x : List ByteArray) (k : Int) (h0 : 0 ≤ k) (h1 : k + cnStringS x ≤ 1099511627776) : Real Try.prog 117 [.sl 1 (List.map eString (mkStringS k x)), .int .i64 k] (.int .i64 (k + cnStringS x)) := by
 obtain ⟨a_r, a8⟩ := nm (List.map eString (mkStringS k x))
 have i9 : A.rlen a_r = (List.length x : Int) := by rw [rlen_map hA a8, mkStringS_len]
 have h2 : (List.length x : Int) ≤ 1099511627776 := by have := cnStringS_ge x; omega
 refine real_args (args' := [.sl 1 a_r, .int .i64 k]) (by subst a8; rfl) ?_
 refine real tyOk Try.func117 (by kernel_rfl) (afun_of rfl ?_)
 refine gs (gr (ra hA 1 (by cbv) (od ?_)))
 refine gs (gs (gr (ra hA 1 (by cbv) (od ?_))))
 refine go_block ?_
 refine go_loopE (fun σ m => ∃ (i : Nat) (n5 : Int) (kk : Int), σ = (S117_1 a_r kk n5) ∧ (n5 = (i : Int) ∧ i ≤ List.length x ∧ kk = k + cnStringS (x.take i)) ∧ m = List.length x - i) _ [] [0, 1, 5] [] (S117_1 a_r k 0) rfl (by cbv) ⟨0, 0, k, rfl, ?_, rfl⟩ (fun σ m hI => ?_)
 ·
  exact ⟨rfl, Nat.zero_le _, by simp [cnStringS]⟩
 obtain ⟨i, n5, kk, rfl, ⟨hn5, hi, hkk⟩, rfl⟩ := hI
 refine gs (gs (gr (ra hA 4 (by cbv) (od ?_))))
 refine go_cond rfl (fun c1 => ?_) (fun c1 => ?_)
 ·
  have ec1 : n5 < (A.rlen a_r) := lss_t hA c1
  refine gk (gs ?_)
  refine go_block ?_
  refine gs (gs ?_)
  have h05 : (0 : Int) ≤ n5 := by omega
  have hlt : i < List.length x := by omega
  obtain ⟨y, hyi⟩ : ∃ y, x[i]? = some y := ⟨_, List.getElem?_eq_getElem hlt⟩
  have cat := cnStringS_at hyi
  have cle := cnStringS_le x (i + 1)
  have cnn := cnStringS_nn (x.take i)
  have hro := mkStringS_get k hyi
  rw [← hkk] at hro
  have cce : ceString y = 1 := rfl
  obtain ⟨r1, hr1, e1⟩ : ∃ r : Int, r = 0 ∧ 0 ≤ r := ⟨0, rfl, by decide⟩
  obtain ⟨r0, hr0, e0⟩ : ∃ r : Int, r = 1 + r1 ∧ 0 ≤ r := ⟨_, rfl, nn_add (by decide) e1⟩
  have p0 : 0 ≤ kk := by clear hr1 e1 hr0 e0; omega
  have hrce : r0 = ceString y := by subst hr1 hr0; rw [cce]; omega
  have q0 : kk + r0 ≤ 1099511627776 ∧ kk + r0 = kk + r0 := ⟨by clear hr1 e1 hr0 e0; omega, rfl⟩
  have j8 : n5 < (List.length x : Int) := by clear hr1 e1 hr0 e0; omega
  have hi1 : i + 1 ≤ List.length x := by clear hr1 e1 hr0 e0; omega
  have c7 : A.num .add .i64 n5 1 = ((i + 1 : Nat) : Int) := by
   clear hr1 e1 hr0 e0; rw [add_i64 hA (by omega) (by omega)]; omega
  have hdec : List.length x - (i + 1) < List.length x - i := by clear hr1 e1 hr0 e0; omega
  obtain ⟨s_0, p9⟩ := nm (mt kk : ByteArray)
  obtain ⟨c_1, d0, b1, d3, b2⟩ := add_one hA p0 q0 hr0 e1
  have hrow : ([.str s_0] : List PV) = eString (meString kk y) := by
   subst d0
   show _ = ([_] : List PV)
   exact congr (congrArg List.cons (congrArg PV.str p9)) (rfl)
  have hget : a_r[(Int.toNat n5)]? = some [.str s_0] := by
   rw [hrow, hn5]; exact map_at eString a8 hro
  refine go_draw (by cbv) ?_
  refine rd hA 2 (by cbv) ?_
  refine dops_step rfl rfl rfl (idx_sl rfl rfl rfl rfl rfl h05 rfl hget) ?_
  refine rd hA 2 (by cbv) ?_
  obtain ⟨i4, q6, hc3⟩ : ∃ (i4 : ByteArray), i4 = (mt kk) ∧ Real Try.prog 44 [.int .i64 kk] (.str i4) := ⟨_, rfl, by exact r_laws_markText A hA kk p0 (le_k q0 e0)⟩
  refine dops_callV rfl rfl (by cbv) (by cbv) hc3 (.inr rfl) ?_
  refine rd hA 1 (by cbv) (dd_ ?_)
  refine go_cond rfl (fun c4 => ?_) (fun c4 => ?_)
  ·
   exact no_t c4 (show (A.scmp .neq s_0 i4) = false from by subst hA; simp [std, p9, q6])
  ·
   refine gk (gr (ra hA 1 (by cbv) ?_))
   refine ops_step rfl rfl (int_add hA rfl rfl rfl b1) ?_
   refine ra hA 1 (by cbv) (od ?_)
   refine gr (ra hA 3 (by cbv) (od ?_))
   refine ⟨(S117_1 a_r c_1 (A.num .add .i64 n5 1)), List.length x - (i + 1), ?_, by cbv, i + 1, (A.num .add .i64 n5 1), c_1, rfl, ?_, rfl⟩
   ·
    exact hdec
   ·
    exact ⟨c7, hi1, fin_k b2 hr1 hrce hkk cat⟩
 ·
  have ec1 : (A.rlen a_r) ≤ n5 := lss_f hA c1
  refine go_exit ⟨fun _ => ?_, fun h => absurd rfl h⟩
  refine gs (gr (ra hA 2 (by cbv) (od ?_)))
  refine go_ret ⟨_, by cbv, ?_⟩
  show _ = (PV.int .i64 kk)
  refine congrArg (PV.int .i64) ?_
  rw [hkk, List.take_of_length_le (by omega)]
def S46_1 (p0 : RR) (p1 : Int) (p2 : Int) : St := { sl := [.sl 1 p0, .int .i64 p1, .bad, .bad, .bad, .int .i64 p2, .bad, .bad, .bad, .bad, .bad, .bad, .bad, .bad, .bad, .bad, .bad, .bad, .bad, .bad, .bad], bl := [] }
theorem r_laws_heldIntS (A : Alg) (hA : A = std) (x : List Int) (k : Int) (h0 : 0 ≤ k) (h1 : k + cnIntS x ≤ 1099511627776) : Real Try.prog 46 [.sl 1 (List.map eInt (mkIntS k x)), .int .i64 k] (.int .i64 (k + cnIntS x)) := by
 obtain ⟨a_r, a8⟩ := nm (List.map eInt (mkIntS k x))
 have i9 : A.rlen a_r = (List.length x : Int) := by rw [rlen_map hA a8, mkIntS_len]
 have h2 : (List.length x : Int) ≤ 1099511627776 := by have := cnIntS_ge x; omega
 refine real_args (args' := [.sl 1 a_r, .int .i64 k]) (by subst a8; rfl) ?_
 refine real tyOk Try.func46 (by kernel_rfl) (afun_of rfl ?_)
 refine gs (gr (ra hA 1 (by cbv) (od ?_)))
 refine gs (gs (gr (ra hA 1 (by cbv) (od ?_))))
 refine go_block ?_
 refine go_loopE (fun σ m => ∃ (i : Nat) (n5 : Int) (kk : Int), σ = (S46_1 a_r kk n5) ∧ (n5 = (i : Int) ∧ i ≤ List.length x ∧ kk = k + cnIntS (x.take i)) ∧ m = List.length x - i) _ [] [0, 1, 5] [] (S46_1 a_r k 0) rfl (by cbv) ⟨0, 0, k, rfl, ?_, rfl⟩ (fun σ m hI => ?_)
 ·
  exact ⟨rfl, Nat.zero_le _, by simp [cnIntS]⟩
 obtain ⟨i, n5, kk, rfl, ⟨hn5, hi, hkk⟩, rfl⟩ := hI
 refine gs (gs (gr (ra hA 4 (by cbv) (od ?_))))
 refine go_cond rfl (fun c1 => ?_) (fun c1 => ?_)
 ·
  have ec1 : n5 < (A.rlen a_r) := lss_t hA c1
  refine gk (gs ?_)
  refine go_block ?_
  refine gs (gs ?_)
  have h05 : (0 : Int) ≤ n5 := by omega
  have hlt : i < List.length x := by omega
  obtain ⟨y, hyi⟩ : ∃ y, x[i]? = some y := ⟨_, List.getElem?_eq_getElem hlt⟩
  have cat := cnIntS_at hyi
  have cle := cnIntS_le x (i + 1)
  have cnn := cnIntS_nn (x.take i)
  have hro := mkIntS_get k hyi
  rw [← hkk] at hro
  have cce : ceInt y = 1 := rfl
  obtain ⟨r1, hr1, e1⟩ : ∃ r : Int, r = 0 ∧ 0 ≤ r := ⟨0, rfl, by decide⟩
  obtain ⟨r0, hr0, e0⟩ : ∃ r : Int, r = 1 + r1 ∧ 0 ≤ r := ⟨_, rfl, nn_add (by decide) e1⟩
  have p0 : 0 ≤ kk := by clear hr1 e1 hr0 e0; omega
  have hrce : r0 = ceInt y := by subst hr1 hr0; rw [cce]; omega
  have q0 : kk + r0 ≤ 1099511627776 ∧ kk + r0 = kk + r0 := ⟨by clear hr1 e1 hr0 e0; omega, rfl⟩
  have j8 : n5 < (List.length x : Int) := by clear hr1 e1 hr0 e0; omega
  have hi1 : i + 1 ≤ List.length x := by clear hr1 e1 hr0 e0; omega
  have c7 : A.num .add .i64 n5 1 = ((i + 1 : Nat) : Int) := by
   clear hr1 e1 hr0 e0; rw [add_i64 hA (by omega) (by omega)]; omega
  have hdec : List.length x - (i + 1) < List.length x - i := by clear hr1 e1 hr0 e0; omega
  obtain ⟨c_1, d0, b1, d3, b2⟩ := add_one hA p0 q0 hr0 e1
  have hrow : ([.int .i64 kk] : List PV) = eInt (meInt kk y) := by
   subst d0
   show _ = ([_] : List PV)
   exact congr (congrArg List.cons (congrArg (PV.int .i64) rfl)) (rfl)
  have hget : a_r[(Int.toNat n5)]? = some [.int .i64 kk] := by
   rw [hrow, hn5]; exact map_at eInt a8 hro
  refine gr (ra hA 2 (by cbv) ?_)
  refine ops_step rfl rfl (idx_sl rfl rfl rfl rfl rfl h05 rfl hget) ?_
  refine ra hA 3 (by cbv) (od ?_)
  refine go_cond rfl (fun c2 => ?_) (fun c2 => ?_)
  ·
   exact no_t c2 (show (A.cmp .neq kk kk) = false from by subst hA; simp [std])
  ·
   refine gk (gr (ra hA 1 (by cbv) ?_))
   refine ops_step rfl rfl (int_add hA rfl rfl rfl b1) ?_
   refine ra hA 1 (by cbv) (od ?_)
   refine gr (ra hA 3 (by cbv) (od ?_))
   refine ⟨(S46_1 a_r c_1 (A.num .add .i64 n5 1)), List.length x - (i + 1), ?_, by cbv, i + 1, (A.num .add .i64 n5 1), c_1, rfl, ?_, rfl⟩
   ·
    exact hdec
   ·
    exact ⟨c7, hi1, fin_k b2 hr1 hrce hkk cat⟩
 ·
  have ec1 : (A.rlen a_r) ≤ n5 := lss_f hA c1
  refine go_exit ⟨fun _ => ?_, fun h => absurd rfl h⟩
  refine gs (gr (ra hA 2 (by cbv) (od ?_)))
  refine go_ret ⟨_, by cbv, ?_⟩
  show _ = (PV.int .i64 kk)
  refine congrArg (PV.int .i64) ?_
  rw [hkk, List.take_of_length_le (by omega)]
def S119_1 (p0 : RR) (p1 : Int) (p2 : Int) : St := { sl := [.sl 1 p0, .int .i64 p1, .bad, .bad, .bad, .int .i64 p2, .bad, .bad, .bad, .bad, .bad, .bad, .bad, .bad, .bad, .bad, .bad, .bad, .bad, .bad, .bad, .bad, .bad], bl := [] }
theorem r_laws_heldBoolS (A : Alg) (hA : A = std) (x : List Bool) (k : Int) (h0 : 0 ≤ k) (h1 : k + cnBoolS x ≤ 1099511627776) : Real Try.prog 119 [.sl 1 (List.map eBool (mkBoolS k x)), .int .i64 k] (.int .i64 (k + cnBoolS x)) := by
 obtain ⟨a_r, a8⟩ := nm (List.map eBool (mkBoolS k x))
 have i9 : A.rlen a_r = (List.length x : Int) := by rw [rlen_map hA a8, mkBoolS_len]
 have h2 : (List.length x : Int) ≤ 1099511627776 := by have := cnBoolS_ge x; omega
 refine real_args (args' := [.sl 1 a_r, .int .i64 k]) (by subst a8; rfl) ?_
 refine real tyOk Try.func119 (by kernel_rfl) (afun_of rfl ?_)
 refine gs (gr (ra hA 1 (by cbv) (od ?_)))
 refine gs (gs (gr (ra hA 1 (by cbv) (od ?_))))
 refine go_block ?_
 refine go_loopE (fun σ m => ∃ (i : Nat) (n5 : Int) (kk : Int), σ = (S119_1 a_r kk n5) ∧ (n5 = (i : Int) ∧ i ≤ List.length x ∧ kk = k + cnBoolS (x.take i)) ∧ m = List.length x - i) _ [] [0, 1, 5] [] (S119_1 a_r k 0) rfl (by cbv) ⟨0, 0, k, rfl, ?_, rfl⟩ (fun σ m hI => ?_)
 ·
  exact ⟨rfl, Nat.zero_le _, by simp [cnBoolS]⟩
 obtain ⟨i, n5, kk, rfl, ⟨hn5, hi, hkk⟩, rfl⟩ := hI
 refine gs (gs (gr (ra hA 4 (by cbv) (od ?_))))
 refine go_cond rfl (fun c1 => ?_) (fun c1 => ?_)
 ·
  have ec1 : n5 < (A.rlen a_r) := lss_t hA c1
  refine gk (gs ?_)
  refine go_block ?_
  refine gs (gs ?_)
  have h05 : (0 : Int) ≤ n5 := by omega
  have hlt : i < List.length x := by omega
  obtain ⟨y, hyi⟩ : ∃ y, x[i]? = some y := ⟨_, List.getElem?_eq_getElem hlt⟩
  have cat := cnBoolS_at hyi
  have cle := cnBoolS_le x (i + 1)
  have cnn := cnBoolS_nn (x.take i)
  have hro := mkBoolS_get k hyi
  rw [← hkk] at hro
  have cce : ceBool y = 1 := rfl
  obtain ⟨r1, hr1, e1⟩ : ∃ r : Int, r = 0 ∧ 0 ≤ r := ⟨0, rfl, by decide⟩
  obtain ⟨r0, hr0, e0⟩ : ∃ r : Int, r = 1 + r1 ∧ 0 ≤ r := ⟨_, rfl, nn_add (by decide) e1⟩
  have p0 : 0 ≤ kk := by clear hr1 e1 hr0 e0; omega
  have hrce : r0 = ceBool y := by subst hr1 hr0; rw [cce]; omega
  have q0 : kk + r0 ≤ 1099511627776 ∧ kk + r0 = kk + r0 := ⟨by clear hr1 e1 hr0 e0; omega, rfl⟩
  have j8 : n5 < (List.length x : Int) := by clear hr1 e1 hr0 e0; omega
  have hi1 : i + 1 ≤ List.length x := by clear hr1 e1 hr0 e0; omega
  have c7 : A.num .add .i64 n5 1 = ((i + 1 : Nat) : Int) := by
   clear hr1 e1 hr0 e0; rw [add_i64 hA (by omega) (by omega)]; omega
  have hdec : List.length x - (i + 1) < List.length x - i := by clear hr1 e1 hr0 e0; omega
  obtain ⟨c_1, d0, b1, d3, b2⟩ := add_one hA p0 q0 hr0 e1
  have hrow : ([.bool (A.cmp .eql (A.num .rem .i64 kk 3) 0)] : List PV) = eBool (meBool kk y) := by
   subst d0
   show _ = ([_] : List PV)
   exact congr (congrArg List.cons (congrArg PV.bool (mb_eq hA rfl))) (rfl)
  have hget : a_r[(Int.toNat n5)]? = some [.bool (A.cmp .eql (A.num .rem .i64 kk 3) 0)] := by
   rw [hrow, hn5]; exact map_at eBool a8 hro
  refine gr (ra hA 2 (by cbv) ?_)
  refine ops_step rfl rfl (idx_sl rfl rfl rfl rfl rfl h05 rfl hget) ?_
  refine ra hA 5 (by cbv) (od ?_)
  refine go_cond rfl (fun c2 => ?_) (fun c2 => ?_)
  ·
   exact no_t c2 (show (A.bnot (A.beq (A.cmp .eql (A.num .rem .i64 kk 3) 0) (A.cmp .eql (A.num .rem .i64 kk 3) 0))) = false from by subst hA; simp [std])
  ·
   refine gk (gr (ra hA 1 (by cbv) ?_))
   refine ops_step rfl rfl (int_add hA rfl rfl rfl b1) ?_
   refine ra hA 1 (by cbv) (od ?_)
   refine gr (ra hA 3 (by cbv) (od ?_))
   refine ⟨(S119_1 a_r c_1 (A.num .add .i64 n5 1)), List.length x - (i + 1), ?_, by cbv, i + 1, (A.num .add .i64 n5 1), c_1, rfl, ?_, rfl⟩
   ·
    exact hdec
   ·
    exact ⟨c7, hi1, fin_k b2 hr1 hrce hkk cat⟩
 ·
  have ec1 : (A.rlen a_r) ≤ n5 := lss_f hA c1
  refine go_exit ⟨fun _ => ?_, fun h => absurd rfl h⟩
  refine gs (gr (ra hA 2 (by cbv) (od ?_)))
  refine go_ret ⟨_, by cbv, ?_⟩
  show _ = (PV.int .i64 kk)
  refine congrArg (PV.int .i64) ?_
  rw [hkk, List.take_of_length_le (by omega)]
def S118_1 (p0 : RR) (p1 : Int) (p2 : Int) : St := { sl := [.sl 3 p0, .int .i64 p1, .bad, .bad, .bad, .int .i64 p2, .bad, .bad, .bad, .bad, .bad, .bad, .bad, .bad, .bad, .bad, .bad, .bad, .bad, .bad, .bad, .bad, .bad, .bad, .bad, .bad, .bad, .bad, .bad, .bad, .bad, .bad, .bad, .bad, .bad, .bad, .bad, .bad, .bad, .bad, .bad], bl := [] }
theorem r_laws_heldMailS (A : Alg) (hA : A = std) (x : List GMail) (k : Int) (h0 : 0 ≤ k) (h1 : k + cnMailS x ≤ 1099511627776) : Real Try.prog 118 [.sl 3 (List.map eMail (mkMailS k x)), .int .i64 k] (.int .i64 (k + cnMailS x)) := by
 obtain ⟨a_r, a8⟩ := nm (List.map eMail (mkMailS k x))
 have i9 : A.rlen a_r = (List.length x : Int) := by rw [rlen_map hA a8, mkMailS_len]
 have h2 : (List.length x : Int) ≤ 1099511627776 := by have := cnMailS_ge x; omega
 refine real_args (args' := [.sl 3 a_r, .int .i64 k]) (by subst a8; rfl) ?_
 refine real tyOk Try.func118 (by kernel_rfl) (afun_of rfl ?_)
 refine gs (gr (ra hA 1 (by cbv) (od ?_)))
 refine gs (gs (gr (ra hA 1 (by cbv) (od ?_))))
 refine go_block ?_
 refine go_loopE (fun σ m => ∃ (i : Nat) (n5 : Int) (kk : Int), σ = (S118_1 a_r kk n5) ∧ (n5 = (i : Int) ∧ i ≤ List.length x ∧ kk = k + cnMailS (x.take i)) ∧ m = List.length x - i) _ [] [0, 1, 5] [] (S118_1 a_r k 0) rfl (by cbv) ⟨0, 0, k, rfl, ?_, rfl⟩ (fun σ m hI => ?_)
 ·
  exact ⟨rfl, Nat.zero_le _, by simp [cnMailS]⟩
 obtain ⟨i, n5, kk, rfl, ⟨hn5, hi, hkk⟩, rfl⟩ := hI
 refine gs (gs (gr (ra hA 4 (by cbv) (od ?_))))
 refine go_cond rfl (fun c1 => ?_) (fun c1 => ?_)
 ·
  have ec1 : n5 < (A.rlen a_r) := lss_t hA c1
  refine gk (gs ?_)
  refine go_block ?_
  refine gs (gs ?_)
  have h05 : (0 : Int) ≤ n5 := by omega
  have hlt : i < List.length x := by omega
  obtain ⟨y, hyi⟩ : ∃ y, x[i]? = some y := ⟨_, List.getElem?_eq_getElem hlt⟩
  have cat := cnMailS_at hyi
  have cle := cnMailS_le x (i + 1)
  have cnn := cnMailS_nn (x.take i)
  have hro := mkMailS_get k hyi
  rw [← hkk] at hro
  obtain ⟨l1, i2, k1⟩ := y
  have cce : ceMail (⟨l1, i2, k1⟩ : GMail) = 1 + 1 + 1 := rfl
  obtain ⟨r3, hr3, e3⟩ : ∃ r : Int, r = 0 ∧ 0 ≤ r := ⟨0, rfl, by decide⟩
  obtain ⟨r2, hr2, e2⟩ : ∃ r : Int, r = 1 + r3 ∧ 0 ≤ r := ⟨_, rfl, nn_add (by decide) e3⟩
  obtain ⟨r1, hr1, e1⟩ : ∃ r : Int, r = 1 + r2 ∧ 0 ≤ r := ⟨_, rfl, nn_add (by decide) e2⟩
  obtain ⟨r0, hr0, e0⟩ : ∃ r : Int, r = 1 + r1 ∧ 0 ≤ r := ⟨_, rfl, nn_add (by decide) e1⟩
  have p0 : 0 ≤ kk := by clear hr3 e3 hr2 e2 hr1 e1 hr0 e0; omega
  have hrce : r0 = ceMail (⟨l1, i2, k1⟩ : GMail) := by subst hr3 hr2 hr1 hr0; rw [cce]; omega
  have q0 : kk + r0 ≤ 1099511627776 ∧ kk + r0 = kk + r0 := ⟨by clear hr3 e3 hr2 e2 hr1 e1 hr0 e0; omega, rfl⟩
  have j8 : n5 < (List.length x : Int) := by clear hr3 e3 hr2 e2 hr1 e1 hr0 e0; omega
  have hi1 : i + 1 ≤ List.length x := by clear hr3 e3 hr2 e2 hr1 e1 hr0 e0; omega
  have c7 : A.num .add .i64 n5 1 = ((i + 1 : Nat) : Int) := by
   clear hr3 e3 hr2 e2 hr1 e1 hr0 e0; rw [add_i64 hA (by omega) (by omega)]; omega
  have hdec : List.length x - (i + 1) < List.length x - i := by clear hr3 e3 hr2 e2 hr1 e1 hr0 e0; omega
  obtain ⟨c_1, d0, b1, d3, b2⟩ := add_one hA p0 q0 hr0 e1
  obtain ⟨c_2, k0, g8, f4, f2⟩ := add_one hA d3 b2 hr1 e2
  obtain ⟨s_2, f7⟩ := nm (mt c_2 : ByteArray)
  obtain ⟨c_3, i7, i0, l4, j0⟩ := add_one hA f4 f2 hr2 e3
  have hrow : ([.int .i64 kk, .int .i64 c_1, .str s_2] : List PV) = eMail (meMail kk (⟨l1, i2, k1⟩ : GMail)) := by
   subst d0 k0 i7
   show _ = ([_, _, _] : List PV)
   exact congr (congrArg List.cons (congrArg (PV.int .i64) rfl)) (congr (congrArg List.cons (congrArg (PV.int .i64) rfl)) (congr (congrArg List.cons (congrArg PV.str f7)) (rfl)))
  have hget : a_r[(Int.toNat n5)]? = some [.int .i64 kk, .int .i64 c_1, .str s_2] := by
   rw [hrow, hn5]; exact map_at eMail a8 hro
  refine gr (ra hA 2 (by cbv) ?_)
  refine ops_step rfl rfl (idx_sl rfl rfl rfl rfl rfl h05 rfl hget) ?_
  refine ra hA 4 (by cbv) (od ?_)
  refine go_cond rfl (fun c2 => ?_) (fun c2 => ?_)
  ·
   exact no_t c2 (show (A.cmp .neq kk kk) = false from by subst hA; simp [std])
  ·
   refine gk (gs (gr (ra hA 1 (by cbv) ?_)))
   refine ops_step rfl rfl (int_add hA rfl rfl rfl b1) ?_
   refine ra hA 1 (by cbv) (od ?_)
   refine gs (gs (gr (ra hA 2 (by cbv) ?_)))
   refine ops_step rfl rfl (idx_sl rfl rfl rfl rfl rfl h05 rfl hget) ?_
   refine ra hA 4 (by cbv) (od ?_)
   refine go_cond rfl (fun c3 => ?_) (fun c3 => ?_)
   ·
    exact no_t c3 (show (A.cmp .neq c_1 c_1) = false from by subst hA; simp [std])
   ·
    refine gk (gs (gr (ra hA 1 (by cbv) ?_)))
    refine ops_step rfl rfl (int_add hA rfl rfl rfl g8) ?_
    refine ra hA 1 (by cbv) (od ?_)
    refine gs (gs ?_)
    refine go_draw (by cbv) ?_
    refine rd hA 2 (by cbv) ?_
    refine dops_step rfl rfl rfl (idx_sl rfl rfl rfl rfl rfl h05 rfl hget) ?_
    refine rd hA 3 (by cbv) ?_
    obtain ⟨i5, s1, hc5⟩ : ∃ (i5 : ByteArray), i5 = (mt c_2) ∧ Real Try.prog 44 [.int .i64 c_2] (.str i5) := ⟨_, rfl, by exact r_laws_markText A hA c_2 f4 (le_k f2 e2)⟩
    refine dops_callV rfl rfl (by cbv) (by cbv) hc5 (.inr rfl) ?_
    refine rd hA 1 (by cbv) (dd_ ?_)
    refine go_cond rfl (fun c6 => ?_) (fun c6 => ?_)
    ·
     exact no_t c6 (show (A.scmp .neq s_2 i5) = false from by subst hA; simp [std, f7, s1])
    ·
     refine gk (gr (ra hA 1 (by cbv) ?_))
     refine ops_step rfl rfl (int_add hA rfl rfl rfl i0) ?_
     refine ra hA 1 (by cbv) (od ?_)
     refine gr (ra hA 3 (by cbv) (od ?_))
     refine ⟨(S118_1 a_r c_3 (A.num .add .i64 n5 1)), List.length x - (i + 1), ?_, by cbv, i + 1, (A.num .add .i64 n5 1), c_3, rfl, ?_, rfl⟩
     ·
      exact hdec
     ·
      exact ⟨c7, hi1, fin_k j0 hr3 hrce hkk cat⟩
 ·
  have ec1 : (A.rlen a_r) ≤ n5 := lss_f hA c1
  refine go_exit ⟨fun _ => ?_, fun h => absurd rfl h⟩
  refine gs (gr (ra hA 2 (by cbv) (od ?_)))
  refine go_ret ⟨_, by cbv, ?_⟩
  show _ = (PV.int .i64 kk)
  refine congrArg (PV.int .i64) ?_
  rw [hkk, List.take_of_length_le (by omega)]
def S116_1 (p0 : RR) (p1 : Int) (p2 : Int) : St := { sl := [.sl 5 p0, .int .i64 p1, .bad, .bad, .bad, .int .i64 p2, .bad, .bad, .bad, .bad, .bad, .bad, .bad, .bad, .bad, .bad, .bad, .bad, .bad, .bad, .bad, .bad, .bad, .bad, .bad, .bad, .bad, .bad, .bad, .bad, .bad, .bad, .bad, .bad, .bad, .bad, .bad, .bad, .bad, .bad, .bad, .bad, .bad, .bad, .bad, .bad, .bad, .bad, .bad, .bad, .bad, .bad, .bad, .bad, .bad, .bad, .bad, .bad, .bad, .bad], bl := [] }
theorem r_laws_heldBoxS (A : Alg) (hA : A = std) (x : List GBox) (k : Int) (h0 : 0 ≤ k) (h1 : k + cnBoxS x ≤ 1099511627776) : Real Try.prog 116 [.sl 5 (List.map eBox (mkBoxS k x)), .int .i64 k] (.int .i64 (k + cnBoxS x)) := by
 obtain ⟨a_r, a8⟩ := nm (List.map eBox (mkBoxS k x))
 have i9 : A.rlen a_r = (List.length x : Int) := by rw [rlen_map hA a8, mkBoxS_len]
 have h2 : (List.length x : Int) ≤ 1099511627776 := by have := cnBoxS_ge x; omega
 refine real_args (args' := [.sl 5 a_r, .int .i64 k]) (by subst a8; rfl) ?_
 refine real tyOk Try.func116 (by kernel_rfl) (afun_of rfl ?_)
 refine gs (gr (ra hA 1 (by cbv) (od ?_)))
 refine gs (gs (gr (ra hA 1 (by cbv) (od ?_))))
 refine go_block ?_
 refine go_loopE (fun σ m => ∃ (i : Nat) (n5 : Int) (kk : Int), σ = (S116_1 a_r kk n5) ∧ (n5 = (i : Int) ∧ i ≤ List.length x ∧ kk = k + cnBoxS (x.take i)) ∧ m = List.length x - i) _ [] [0, 1, 5] [] (S116_1 a_r k 0) rfl (by cbv) ⟨0, 0, k, rfl, ?_, rfl⟩ (fun σ m hI => ?_)
 ·
  exact ⟨rfl, Nat.zero_le _, by simp [cnBoxS]⟩
 obtain ⟨i, n5, kk, rfl, ⟨hn5, hi, hkk⟩, rfl⟩ := hI
 refine gs (gs (gr (ra hA 4 (by cbv) (od ?_))))
 refine go_cond rfl (fun c1 => ?_) (fun c1 => ?_)
 ·
  have ec1 : n5 < (A.rlen a_r) := lss_t hA c1
  refine gk (gs ?_)
  refine go_block ?_
  refine gs (gs ?_)
  have h05 : (0 : Int) ≤ n5 := by omega
  have hlt : i < List.length x := by omega
  obtain ⟨y, hyi⟩ : ∃ y, x[i]? = some y := ⟨_, List.getElem?_eq_getElem hlt⟩
  have cat := cnBoxS_at hyi
  have cle := cnBoxS_le x (i + 1)
  have cnn := cnBoxS_nn (x.take i)
  have hro := mkBoxS_get k hyi
  rw [← hkk] at hro
  obtain ⟨i1, j1, j5, j3, a9⟩ := y
  have cce : ceBox (⟨i1, j1, j5, j3, a9⟩ : GBox) = 1 + 1 + 1 + 1 + cnMailS a9 := rfl
  have i3 := cnMailS_nn a9
  obtain ⟨r5, hr5, e5⟩ : ∃ r : Int, r = 0 ∧ 0 ≤ r := ⟨0, rfl, by decide⟩
  obtain ⟨r4, hr4, e4⟩ : ∃ r : Int, r = cnMailS a9 + r5 ∧ 0 ≤ r := ⟨_, rfl, nn_add i3 e5⟩
  obtain ⟨r3, hr3, e3⟩ : ∃ r : Int, r = 1 + r4 ∧ 0 ≤ r := ⟨_, rfl, nn_add (by decide) e4⟩
  obtain ⟨r2, hr2, e2⟩ : ∃ r : Int, r = 1 + r3 ∧ 0 ≤ r := ⟨_, rfl, nn_add (by decide) e3⟩
  obtain ⟨r1, hr1, e1⟩ : ∃ r : Int, r = 1 + r2 ∧ 0 ≤ r := ⟨_, rfl, nn_add (by decide) e2⟩
  obtain ⟨r0, hr0, e0⟩ : ∃ r : Int, r = 1 + r1 ∧ 0 ≤ r := ⟨_, rfl, nn_add (by decide) e1⟩
  have p0 : 0 ≤ kk := by clear hr5 e5 hr4 e4 hr3 e3 hr2 e2 hr1 e1 hr0 e0; omega
  have hrce : r0 = ceBox (⟨i1, j1, j5, j3, a9⟩ : GBox) := by subst hr5 hr4 hr3 hr2 hr1 hr0; rw [cce]; omega
  have q0 : kk + r0 ≤ 1099511627776 ∧ kk + r0 = kk + r0 := ⟨by clear hr5 e5 hr4 e4 hr3 e3 hr2 e2 hr1 e1 hr0 e0; omega, rfl⟩
  have j8 : n5 < (List.length x : Int) := by clear hr5 e5 hr4 e4 hr3 e3 hr2 e2 hr1 e1 hr0 e0; omega
  have hi1 : i + 1 ≤ List.length x := by clear hr5 e5 hr4 e4 hr3 e3 hr2 e2 hr1 e1 hr0 e0; omega
  have c7 : A.num .add .i64 n5 1 = ((i + 1 : Nat) : Int) := by
   clear hr5 e5 hr4 e4 hr3 e3 hr2 e2 hr1 e1 hr0 e0; rw [add_i64 hA (by omega) (by omega)]; omega
  have hdec : List.length x - (i + 1) < List.length x - i := by clear hr5 e5 hr4 e4 hr3 e3 hr2 e2 hr1 e1 hr0 e0; omega
  obtain ⟨c_1, d0, b1, d3, b2⟩ := add_one hA p0 q0 hr0 e1
  obtain ⟨s_1, i6⟩ := nm (mt c_1 : ByteArray)
  obtain ⟨c_2, k0, g8, f4, f2⟩ := add_one hA d3 b2 hr1 e2
  obtain ⟨s_2, f7⟩ := nm (mt c_2 : ByteArray)
  obtain ⟨c_3, i7, i0, l4, j0⟩ := add_one hA f4 f2 hr2 e3
  obtain ⟨c_4, m6, k6, l5, k9⟩ := add_one hA l4 j0 hr3 e4
  obtain ⟨s_4, n4⟩ := nm (List.map eMail (mkMailS c_4 a9) : RR)
  have w0 : A.rlen s_4 = (List.length a9 : Int) := by rw [rlen_map hA n4, mkMailS_len]
  obtain ⟨c_5, n7⟩ := nm (c_4 + cnMailS a9 : Int)
  have n9 := add_cn n7 l5 k9 hr4 i3
  have hrow : ([.int .i64 kk, .str s_1, .str s_2, .int .i64 c_3, .sl 3 s_4] : List PV) = eBox (meBox kk (⟨i1, j1, j5, j3, a9⟩ : GBox)) := by
   subst d0 k0 i7 m6 n7
   show _ = ([_, _, _, _, _] : List PV)
   exact congr (congrArg List.cons (congrArg (PV.int .i64) rfl)) (congr (congrArg List.cons (congrArg PV.str i6)) (congr (congrArg List.cons (congrArg PV.str f7)) (congr (congrArg List.cons (congrArg (PV.int .i64) rfl)) (congr (congrArg List.cons (congrArg (PV.sl 3) n4)) (rfl)))))
  have hget : a_r[(Int.toNat n5)]? = some [.int .i64 kk, .str s_1, .str s_2, .int .i64 c_3, .sl 3 s_4] := by
   rw [hrow, hn5]; exact map_at eBox a8 hro
  refine gr (ra hA 2 (by cbv) ?_)
  refine ops_step rfl rfl (idx_sl rfl rfl rfl rfl rfl h05 rfl hget) ?_
  refine ra hA 4 (by cbv) (od ?_)
  refine go_cond rfl (fun c2 => ?_) (fun c2 => ?_)
  ·
   exact no_t c2 (show (A.cmp .neq kk kk) = false from by subst hA; simp [std])
  ·
   refine gk (gs (gr (ra hA 1 (by cbv) ?_)))
   refine ops_step rfl rfl (int_add hA rfl rfl rfl b1) ?_
   refine ra hA 1 (by cbv) (od ?_)
   refine gs (gs ?_)
   refine go_draw (by cbv) ?_
   refine rd hA 2 (by cbv) ?_
   refine dops_step rfl rfl rfl (idx_sl rfl rfl rfl rfl rfl h05 rfl hget) ?_
   refine rd hA 3 (by cbv) ?_
   obtain ⟨b6, j4, hc4⟩ : ∃ (b6 : ByteArray), b6 = (mt c_1) ∧ Real Try.prog 44 [.int .i64 c_1] (.str b6) := ⟨_, rfl, by exact r_laws_markText A hA c_1 d3 (le_k b2 e1)⟩
   refine dops_callV rfl rfl (by cbv) (by cbv) hc4 (.inr rfl) ?_
   refine rd hA 1 (by cbv) (dd_ ?_)
   refine go_cond rfl (fun c5 => ?_) (fun c5 => ?_)
   ·
    exact no_t c5 (show (A.scmp .neq s_1 b6) = false from by subst hA; simp [std, i6, j4])
   ·
    refine gk (gs (gr (ra hA 1 (by cbv) ?_)))
    refine ops_step rfl rfl (int_add hA rfl rfl rfl g8) ?_
    refine ra hA 1 (by cbv) (od ?_)
    refine gs (gs ?_)
    refine go_draw (by cbv) ?_
    refine rd hA 2 (by cbv) ?_
    refine dops_step rfl rfl rfl (idx_sl rfl rfl rfl rfl rfl h05 rfl hget) ?_
    refine rd hA 3 (by cbv) ?_
    obtain ⟨b5, j6, hc7⟩ : ∃ (b5 : ByteArray), b5 = (mt c_2) ∧ Real Try.prog 44 [.int .i64 c_2] (.str b5) := ⟨_, rfl, by exact r_laws_markText A hA c_2 f4 (le_k f2 e2)⟩
    refine dops_callV rfl rfl (by cbv) (by cbv) hc7 (.inr rfl) ?_
    refine rd hA 1 (by cbv) (dd_ ?_)
    refine go_cond rfl (fun c8 => ?_) (fun c8 => ?_)
    ·
     exact no_t c8 (show (A.scmp .neq s_2 b5) = false from by subst hA; simp [std, f7, j6])
    ·
     refine gk (gs (gr (ra hA 1 (by cbv) ?_)))
     refine ops_step rfl rfl (int_add hA rfl rfl rfl i0) ?_
     refine ra hA 1 (by cbv) (od ?_)
     refine gs (gs (gr (ra hA 2 (by cbv) ?_)))
     refine ops_step rfl rfl (idx_sl rfl rfl rfl rfl rfl h05 rfl hget) ?_
     refine ra hA 4 (by cbv) (od ?_)
     refine go_cond rfl (fun c9 => ?_) (fun c9 => ?_)
     ·
      exact no_t c9 (show (A.cmp .neq c_3 c_3) = false from by subst hA; simp [std])
     ·
      refine gk (gs (gr (ra hA 1 (by cbv) ?_)))
      refine ops_step rfl rfl (int_add hA rfl rfl rfl k6) ?_
      refine ra hA 1 (by cbv) (od ?_)
      refine gs (gr (ra hA 2 (by cbv) ?_))
      refine ops_step rfl rfl (idx_sl rfl rfl rfl rfl rfl h05 rfl hget) ?_
      refine ra hA 3 (by cbv) ?_
      have u0 : Real Try.prog 118 [.sl 3 s_4, .int .i64 c_4] (.int .i64 c_5) := by
       subst n4; rw [n7]; exact r_laws_heldMailS A hA a9 c_4 l5 (le_cn k9 hr4 e5)
      refine ops_callV rfl rfl (by cbv) (by cbv) u0 (.inl trivial) (by cbv) ?_
      refine ra hA 1 (by cbv) (od ?_)
      refine gs (gr (ra hA 2 (by cbv) (od ?_)))
      refine go_cond rfl (fun c12 => ?_) (fun c12 => ?_)
      ·
       have q5 : c_5 < 0 := lss_t hA c12
       exact absurd q5 (Int.not_lt.2 n9.1)
      ·
       have q5 : 0 ≤ c_5 := lss_f hA c12
       refine gk (gr (ra hA 3 (by cbv) (od ?_)))
       refine ⟨(S116_1 a_r c_5 (A.num .add .i64 n5 1)), List.length x - (i + 1), ?_, by cbv, i + 1, (A.num .add .i64 n5 1), c_5, rfl, ?_, rfl⟩
       ·
        exact hdec
       ·
        exact ⟨c7, hi1, fin_k n9.2 hr5 hrce hkk cat⟩
 ·
  have ec1 : (A.rlen a_r) ≤ n5 := lss_f hA c1
  refine go_exit ⟨fun _ => ?_, fun h => absurd rfl h⟩
  refine gs (gr (ra hA 2 (by cbv) (od ?_)))
  refine go_ret ⟨_, by cbv, ?_⟩
  show _ = (PV.int .i64 kk)
  refine congrArg (PV.int .i64) ?_
  rw [hkk, List.take_of_length_le (by omega)]
def S79_1 (p0 : RR) (p1 : Int) (p2 : Int) : St := { sl := [.sl 17 p0, .int .i64 p1, .bad, .bad, .bad, .int .i64 p2, .bad, .bad, .bad, .bad, .bad, .bad, .bad, .bad, .bad, .bad, .bad, .bad, .bad, .bad, .bad, .bad, .bad, .bad, .bad, .bad, .bad, .bad, .bad, .bad, .bad, .bad, .bad, .bad, .bad, .bad, .bad, .bad, .bad, .bad, .bad, .bad, .bad, .bad, .bad, .bad, .bad, .bad, .bad, .bad, .bad, .bad, .bad, .bad, .bad, .bad, .bad, .bad, .bad, .bad, .bad, .bad, .bad, .bad, .bad, .bad, .bad, .bad, .bad, .bad, .bad, .bad, .bad, .bad, .bad, .bad, .bad, .bad, .bad, .bad, .bad, .bad, .bad, .bad, .bad, .bad, .bad, .bad, .bad, .bad, .bad, .bad, .bad, .bad, .bad, .bad, .bad, .bad, .bad, .bad, .bad, .bad, .bad, .bad, .bad, .bad, .bad, .bad, .bad, .bad, .bad, .bad, .bad, .bad, .bad, .bad, .bad, .bad, .bad, .bad, .bad, .bad, .bad, .bad, .bad, .bad, .bad, .bad, .bad, .bad, .bad, .bad, .bad, .bad, .bad, .bad, .bad, .bad, .bad, .bad, .bad, .bad, .bad, .bad, .bad, .bad, .bad, .bad, .bad, .bad, .bad, .bad, .bad, .bad, .bad, .bad, .bad, .bad, .bad, .bad, .bad, .bad, .bad, .bad, .bad, .bad, .bad, .bad, .bad, .bad, .bad, .bad, .bad, .bad, .bad, .bad, .bad, .bad, .bad, .bad, .bad, .bad, .bad, .bad, .bad, .bad, .bad], bl := [] }
theorem r_laws_heldSessionS (A : Alg) (hA : A = std) (x : List GSession) (k : Int) (h0 : 0 ≤ k) (h1 : k + cnSessionS x ≤ 1099511627776) : Real Try.prog 79 [.sl 17 (List.map eSession (mkSessionS k x)), .int .i64 k] (.int .i64 (k + cnSessionS x)) := by
 obtain ⟨a_r, a8⟩ := nm (List.map eSession (mkSessionS k x))
 have i9 : A.rlen a_r = (List.length x : Int) := by rw [rlen_map hA a8, mkSessionS_len]
 have h2 : (List.length x : Int) ≤ 1099511627776 := by have := cnSessionS_ge x; omega
 refine real_args (args' := [.sl 17 a_r, .int .i64 k]) (by subst a8; rfl) ?_
 refine real tyOk Try.func79 (by kernel_rfl) (afun_of rfl ?_)
 refine gs (gr (ra hA 1 (by cbv) (od ?_)))
 refine gs (gs (gr (ra hA 1 (by cbv) (od ?_))))
 refine go_block ?_
 refine go_loopE (fun σ m => ∃ (i : Nat) (n5 : Int) (kk : Int), σ = (S79_1 a_r kk n5) ∧ (n5 = (i : Int) ∧ i ≤ List.length x ∧ kk = k + cnSessionS (x.take i)) ∧ m = List.length x - i) _ [] [0, 1, 5] [] (S79_1 a_r k 0) rfl (by cbv) ⟨0, 0, k, rfl, ?_, rfl⟩ (fun σ m hI => ?_)
 ·
  exact ⟨rfl, Nat.zero_le _, by simp [cnSessionS]⟩
 obtain ⟨i, n5, kk, rfl, ⟨hn5, hi, hkk⟩, rfl⟩ := hI
 refine gs (gs (gr (ra hA 4 (by cbv) (od ?_))))
 refine go_cond rfl (fun c1 => ?_) (fun c1 => ?_)
 ·
  have ec1 : n5 < (A.rlen a_r) := lss_t hA c1
  refine gk (gs ?_)
  refine go_block ?_
  refine gs (gs ?_)
  have h05 : (0 : Int) ≤ n5 := by omega
  have hlt : i < List.length x := by omega
  obtain ⟨y, hyi⟩ : ∃ y, x[i]? = some y := ⟨_, List.getElem?_eq_getElem hlt⟩
  have cat := cnSessionS_at hyi
  have cle := cnSessionS_le x (i + 1)
  have cnn := cnSessionS_nn (x.take i)
  have hro := mkSessionS_get k hyi
  rw [← hkk] at hro
  obtain ⟨i8, n0, l9, j7, ⟨b4, d1, a7, a4⟩, ⟨b3, b9, a1, a3⟩, ⟨c0, d4, d8, b8, a5⟩⟩ := y
  have cce : ceSession (⟨i8, n0, l9, j7, ⟨b4, d1, a7, a4⟩, ⟨b3, b9, a1, a3⟩, ⟨c0, d4, d8, b8, a5⟩⟩ : GSession) = 1 + 1 + 1 + 1 + 1 + 1 + cnStringS a7 + cnStringS a4 + 1 + 1 + cnMailS a1 + cnBoolS a3 + 1 + 1 + 1 + 1 + cnIntS a5 := rfl
  have f9 := cnStringS_nn a7
  have d5 := cnStringS_nn a4
  have d2 := cnMailS_nn a1
  have d6 := cnBoolS_nn a3
  have f1 := cnIntS_nn a5
  obtain ⟨r17, f6, e17⟩ : ∃ r : Int, r = 0 ∧ 0 ≤ r := ⟨0, rfl, by decide⟩
  obtain ⟨r16, f0, e16⟩ : ∃ r : Int, r = cnIntS a5 + r17 ∧ 0 ≤ r := ⟨_, rfl, nn_add f1 e17⟩
  obtain ⟨r15, f8, e15⟩ : ∃ r : Int, r = 1 + r16 ∧ 0 ≤ r := ⟨_, rfl, nn_add (by decide) e16⟩
  obtain ⟨r14, f5, e14⟩ : ∃ r : Int, r = 1 + r15 ∧ 0 ≤ r := ⟨_, rfl, nn_add (by decide) e15⟩
  obtain ⟨r13, f3, e13⟩ : ∃ r : Int, r = 1 + r14 ∧ 0 ≤ r := ⟨_, rfl, nn_add (by decide) e14⟩
  obtain ⟨r12, g0, e12⟩ : ∃ r : Int, r = 1 + r13 ∧ 0 ≤ r := ⟨_, rfl, nn_add (by decide) e13⟩
  obtain ⟨r11, d9, e11⟩ : ∃ r : Int, r = cnBoolS a3 + r12 ∧ 0 ≤ r := ⟨_, rfl, nn_add d6 e12⟩
  obtain ⟨r10, d7, e10⟩ : ∃ r : Int, r = cnMailS a1 + r11 ∧ 0 ≤ r := ⟨_, rfl, nn_add d2 e11⟩
  obtain ⟨r9, hr9, e9⟩ : ∃ r : Int, r = 1 + r10 ∧ 0 ≤ r := ⟨_, rfl, nn_add (by decide) e10⟩
  obtain ⟨r8, hr8, e8⟩ : ∃ r : Int, r = 1 + r9 ∧ 0 ≤ r := ⟨_, rfl, nn_add (by decide) e9⟩
  obtain ⟨r7, hr7, e7⟩ : ∃ r : Int, r = cnStringS a4 + r8 ∧ 0 ≤ r := ⟨_, rfl, nn_add d5 e8⟩
  obtain ⟨r6, hr6, e6⟩ : ∃ r : Int, r = cnStringS a7 + r7 ∧ 0 ≤ r := ⟨_, rfl, nn_add f9 e7⟩
  obtain ⟨r5, hr5, e5⟩ : ∃ r : Int, r = 1 + r6 ∧ 0 ≤ r := ⟨_, rfl, nn_add (by decide) e6⟩
  obtain ⟨r4, hr4, e4⟩ : ∃ r : Int, r = 1 + r5 ∧ 0 ≤ r := ⟨_, rfl, nn_add (by decide) e5⟩
  obtain ⟨r3, hr3, e3⟩ : ∃ r : Int, r = 1 + r4 ∧ 0 ≤ r := ⟨_, rfl, nn_add (by decide) e4⟩
  obtain ⟨r2, hr2, e2⟩ : ∃ r : Int, r = 1 + r3 ∧ 0 ≤ r := ⟨_, rfl, nn_add (by decide) e3⟩
  obtain ⟨r1, hr1, e1⟩ : ∃ r : Int, r = 1 + r2 ∧ 0 ≤ r := ⟨_, rfl, nn_add (by decide) e2⟩
  obtain ⟨r0, hr0, e0⟩ : ∃ r : Int, r = 1 + r1 ∧ 0 ≤ r := ⟨_, rfl, nn_add (by decide) e1⟩
  have p0 : 0 ≤ kk := by clear f6 e17 f0 e16 f8 e15 f5 e14 f3 e13 g0 e12 d9 e11 d7 e10 hr9 e9 hr8 e8 hr7 e7 hr6 e6 hr5 e5 hr4 e4 hr3 e3 hr2 e2 hr1 e1 hr0 e0; omega
  have hrce : r0 = ceSession (⟨i8, n0, l9, j7, ⟨b4, d1, a7, a4⟩, ⟨b3, b9, a1, a3⟩, ⟨c0, d4, d8, b8, a5⟩⟩ : GSession) := by subst f6 f0 f8 f5 f3 g0 d9 d7 hr9 hr8 hr7 hr6 hr5 hr4 hr3 hr2 hr1 hr0; rw [cce]; omega
  have q0 : kk + r0 ≤ 1099511627776 ∧ kk + r0 = kk + r0 := ⟨by clear f6 e17 f0 e16 f8 e15 f5 e14 f3 e13 g0 e12 d9 e11 d7 e10 hr9 e9 hr8 e8 hr7 e7 hr6 e6 hr5 e5 hr4 e4 hr3 e3 hr2 e2 hr1 e1 hr0 e0; omega, rfl⟩
  have j8 : n5 < (List.length x : Int) := by clear f6 e17 f0 e16 f8 e15 f5 e14 f3 e13 g0 e12 d9 e11 d7 e10 hr9 e9 hr8 e8 hr7 e7 hr6 e6 hr5 e5 hr4 e4 hr3 e3 hr2 e2 hr1 e1 hr0 e0; omega
  have hi1 : i + 1 ≤ List.length x := by clear f6 e17 f0 e16 f8 e15 f5 e14 f3 e13 g0 e12 d9 e11 d7 e10 hr9 e9 hr8 e8 hr7 e7 hr6 e6 hr5 e5 hr4 e4 hr3 e3 hr2 e2 hr1 e1 hr0 e0; omega
  have c7 : A.num .add .i64 n5 1 = ((i + 1 : Nat) : Int) := by
   clear f6 e17 f0 e16 f8 e15 f5 e14 f3 e13 g0 e12 d9 e11 d7 e10 hr9 e9 hr8 e8 hr7 e7 hr6 e6 hr5 e5 hr4 e4 hr3 e3 hr2 e2 hr1 e1 hr0 e0; rw [add_i64 hA (by omega) (by omega)]; omega
  have hdec : List.length x - (i + 1) < List.length x - i := by clear f6 e17 f0 e16 f8 e15 f5 e14 f3 e13 g0 e12 d9 e11 d7 e10 hr9 e9 hr8 e8 hr7 e7 hr6 e6 hr5 e5 hr4 e4 hr3 e3 hr2 e2 hr1 e1 hr0 e0; omega
  obtain ⟨c_1, d0, b1, d3, b2⟩ := add_one hA p0 q0 hr0 e1
  obtain ⟨s_1, i6⟩ := nm (mt c_1 : ByteArray)
  obtain ⟨c_2, k0, g8, f4, f2⟩ := add_one hA d3 b2 hr1 e2
  obtain ⟨s_2, f7⟩ := nm (mt c_2 : ByteArray)
  obtain ⟨c_3, i7, i0, l4, j0⟩ := add_one hA f4 f2 hr2 e3
  obtain ⟨c_4, m6, k6, l5, k9⟩ := add_one hA l4 j0 hr3 e4
  obtain ⟨c_5, u5, t8, s3, p5⟩ := add_one hA l5 k9 hr4 e5
  obtain ⟨s_5, s2⟩ := nm (mt c_5 : ByteArray)
  obtain ⟨c_6, u4, t4, q2, s7⟩ := add_one hA s3 p5 hr5 e6
  obtain ⟨s_6, m7⟩ := nm (List.map eString (mkStringS c_6 a7) : RR)
  have v7 : A.rlen s_6 = (List.length a7 : Int) := by rw [rlen_map hA m7, mkStringS_len]
  obtain ⟨c_7, m8⟩ := nm (c_6 + cnStringS a7 : Int)
  have g7 := add_cn m8 q2 s7 hr6 f9
  obtain ⟨s_7, n1⟩ := nm (List.map eString (mkStringS c_7 a4) : RR)
  have v8 : A.rlen s_7 = (List.length a4 : Int) := by rw [rlen_map hA n1, mkStringS_len]
  obtain ⟨c_8, n2⟩ := nm (c_7 + cnStringS a4 : Int)
  have l6 := add_cn n2 g7.1 g7.2 hr7 d5
  obtain ⟨c_9, u6, t1, q9, q7⟩ := add_one hA l6.1 l6.2 hr8 e9
  obtain ⟨s_9, p7⟩ := nm (mt c_9 : ByteArray)
  obtain ⟨m2, t3, s0, o1, o9⟩ := add_one hA q9 q7 hr9 e10
  obtain ⟨k7, k3⟩ := nm (List.map eMail (mkMailS m2 a1) : RR)
  have v2 : A.rlen k7 = (List.length a1 : Int) := by rw [rlen_map hA k3, mkMailS_len]
  obtain ⟨g6, l0⟩ := nm (m2 + cnMailS a1 : Int)
  have g1 := add_cn l0 o1 o9 d7 d2
  obtain ⟨m0, l7⟩ := nm (List.map eBool (mkBoolS g6 a3) : RR)
  have v3 : A.rlen m0 = (List.length a3 : Int) := by rw [rlen_map hA l7, mkBoolS_len]
  obtain ⟨g5, k8⟩ := nm (g6 + cnBoolS a3 : Int)
  have j2 := add_cn k8 g1.1 g1.2 d9 d6
  obtain ⟨m1, t0, p8, o0, o8⟩ := add_one hA j2.1 j2.2 g0 e13
  obtain ⟨m5, o2⟩ := nm (mt m1 : ByteArray)
  obtain ⟨k4, t7, s8, o3, o5⟩ := add_one hA o0 o8 f3 e14
  obtain ⟨m9, o7⟩ := nm (mt k4 : ByteArray)
  obtain ⟨l2, t6, p4, t2, s9⟩ := add_one hA o3 o5 f5 e15
  obtain ⟨m3, t5, q3, o6, o4⟩ := add_one hA t2 s9 f8 e16
  obtain ⟨k5, l8⟩ := nm (List.map eInt (mkIntS m3 a5) : RR)
  have v4 : A.rlen k5 = (List.length a5 : Int) := by rw [rlen_map hA l8, mkIntS_len]
  obtain ⟨j9, l3⟩ := nm (m3 + cnIntS a5 : Int)
  have m4 := add_cn l3 o6 o4 f0 f1
  have hrow : ([.int .i64 kk, .str s_1, .str s_2, .bool (A.cmp .eql (A.num .rem .i64 c_3 3) 0), .int .i64 c_4, .str s_5, .sl 1 s_6, .sl 1 s_7, .int .i64 c_8, .str s_9, .sl 3 k7, .sl 1 m0, .int .i64 g5, .str m5, .str m9, .int .i64 l2, .sl 1 k5] : List PV) = eSession (meSession kk (⟨i8, n0, l9, j7, ⟨b4, d1, a7, a4⟩, ⟨b3, b9, a1, a3⟩, ⟨c0, d4, d8, b8, a5⟩⟩ : GSession)) := by
   subst d0 k0 i7 m6 u5 u4 m8 n2 u6 t3 l0 k8 t0 t7 t6 t5 l3
   show _ = ([_, _, _, _, _, _, _, _, _, _, _, _, _, _, _, _, _] : List PV)
   exact congr (congrArg List.cons (congrArg (PV.int .i64) rfl)) (congr (congrArg List.cons (congrArg PV.str i6)) (congr (congrArg List.cons (congrArg PV.str f7)) (congr (congrArg List.cons (congrArg PV.bool (mb_eq hA rfl))) (congr (congrArg List.cons (congrArg (PV.int .i64) rfl)) (congr (congrArg List.cons (congrArg PV.str s2)) (congr (congrArg List.cons (congrArg (PV.sl 1) m7)) (congr (congrArg List.cons (congrArg (PV.sl 1) n1)) (congr (congrArg List.cons (congrArg (PV.int .i64) rfl)) (congr (congrArg List.cons (congrArg PV.str p7)) (congr (congrArg List.cons (congrArg (PV.sl 3) k3)) (congr (congrArg List.cons (congrArg (PV.sl 1) l7)) (congr (congrArg List.cons (congrArg (PV.int .i64) rfl)) (congr (congrArg List.cons (congrArg PV.str o2)) (congr (congrArg List.cons (congrArg PV.str o7)) (congr (congrArg List.cons (congrArg (PV.int .i64) rfl)) (congr (congrArg List.cons (congrArg (PV.sl 1) l8)) (rfl)))))))))))))))))
  have hget : a_r[(Int.toNat n5)]? = some [.int .i64 kk, .str s_1, .str s_2, .bool (A.cmp .eql (A.num .rem .i64 c_3 3) 0), .int .i64 c_4, .str s_5, .sl 1 s_6, .sl 1 s_7, .int .i64 c_8, .str s_9, .sl 3 k7, .sl 1 m0, .int .i64 g5, .str m5, .str m9, .int .i64 l2, .sl 1 k5] := by
   rw [hrow, hn5]; exact map_at eSession a8 hro
  refine gr (ra hA 2 (by cbv) ?_)
  refine ops_step rfl rfl (idx_sl rfl rfl rfl rfl rfl h05 rfl hget) ?_
  refine ra hA 4 (by cbv) (od ?_)
  refine go_cond rfl (fun c2 => ?_) (fun c2 => ?_)
  ·
   exact no_t c2 (show (A.cmp .neq kk kk) = false from by subst hA; simp [std])
  ·
   refine gk (gs (gr (ra hA 1 (by cbv) ?_)))
   refine ops_step rfl rfl (int_add hA rfl rfl rfl b1) ?_
   refine ra hA 1 (by cbv) (od ?_)
   refine gs (gs ?_)
   refine go_draw (by cbv) ?_
   refine rd hA 2 (by cbv) ?_
   refine dops_step rfl rfl rfl (idx_sl rfl rfl rfl rfl rfl h05 rfl hget) ?_
   refine rd hA 3 (by cbv) ?_
   obtain ⟨b6, j4, hc4⟩ : ∃ (b6 : ByteArray), b6 = (mt c_1) ∧ Real Try.prog 44 [.int .i64 c_1] (.str b6) := ⟨_, rfl, by exact r_laws_markText A hA c_1 d3 (le_k b2 e1)⟩
   refine dops_callV rfl rfl (by cbv) (by cbv) hc4 (.inr rfl) ?_
   refine rd hA 1 (by cbv) (dd_ ?_)
   refine go_cond rfl (fun c5 => ?_) (fun c5 => ?_)
   ·
    exact no_t c5 (show (A.scmp .neq s_1 b6) = false from by subst hA; simp [std, i6, j4])
   ·
    refine gk (gs (gr (ra hA 1 (by cbv) ?_)))
    refine ops_step rfl rfl (int_add hA rfl rfl rfl g8) ?_
    refine ra hA 1 (by cbv) (od ?_)
    refine gs (gs ?_)
    refine go_draw (by cbv) ?_
    refine rd hA 2 (by cbv) ?_
    refine dops_step rfl rfl rfl (idx_sl rfl rfl rfl rfl rfl h05 rfl hget) ?_
    refine rd hA 3 (by cbv) ?_
    obtain ⟨b5, j6, hc7⟩ : ∃ (b5 : ByteArray), b5 = (mt c_2) ∧ Real Try.prog 44 [.int .i64 c_2] (.str b5) := ⟨_, rfl, by exact r_laws_markText A hA c_2 f4 (le_k f2 e2)⟩
    refine dops_callV rfl rfl (by cbv) (by cbv) hc7 (.inr rfl) ?_
    refine rd hA 1 (by cbv) (dd_ ?_)
    refine go_cond rfl (fun c8 => ?_) (fun c8 => ?_)
    ·
     exact no_t c8 (show (A.scmp .neq s_2 b5) = false from by subst hA; simp [std, f7, j6])
    ·
     refine gk (gs (gr (ra hA 1 (by cbv) ?_)))
     refine ops_step rfl rfl (int_add hA rfl rfl rfl i0) ?_
     refine ra hA 1 (by cbv) (od ?_)
     refine gs (gs (gr (ra hA 2 (by cbv) ?_)))
     refine ops_step rfl rfl (idx_sl rfl rfl rfl rfl rfl h05 rfl hget) ?_
     refine ra hA 6 (by cbv) (od ?_)
     refine go_cond rfl (fun c9 => ?_) (fun c9 => ?_)
     ·
      exact no_t c9 (show (A.bnot (A.beq (A.cmp .eql (A.num .rem .i64 c_3 3) 0) (A.cmp .eql (A.num .rem .i64 c_3 3) 0))) = false from by subst hA; simp [std])
     ·
      refine gk (gs (gr (ra hA 1 (by cbv) ?_)))
      refine ops_step rfl rfl (int_add hA rfl rfl rfl k6) ?_
      refine ra hA 1 (by cbv) (od ?_)
      refine gs (gs (gr (ra hA 2 (by cbv) ?_)))
      refine ops_step rfl rfl (idx_sl rfl rfl rfl rfl rfl h05 rfl hget) ?_
      refine ra hA 5 (by cbv) (od ?_)
      refine go_cond rfl (fun c10 => ?_) (fun c10 => ?_)
      ·
       exact no_t c10 (show (A.cmp .neq c_4 c_4) = false from by subst hA; simp [std])
      ·
       refine gk (gs (gr (ra hA 1 (by cbv) ?_)))
       refine ops_step rfl rfl (int_add hA rfl rfl rfl t8) ?_
       refine ra hA 1 (by cbv) (od ?_)
       refine gs (gs ?_)
       refine go_draw (by cbv) ?_
       refine rd hA 2 (by cbv) ?_
       refine dops_step rfl rfl rfl (idx_sl rfl rfl rfl rfl rfl h05 rfl hget) ?_
       refine rd hA 4 (by cbv) ?_
       obtain ⟨g9, p3, u3⟩ : ∃ (g9 : ByteArray), g9 = (mt c_5) ∧ Real Try.prog 44 [.int .i64 c_5] (.str g9) := ⟨_, rfl, by exact r_laws_markText A hA c_5 s3 (le_k p5 e5)⟩
       refine dops_callV rfl rfl (by cbv) (by cbv) u3 (.inr rfl) ?_
       refine rd hA 1 (by cbv) (dd_ ?_)
       refine go_cond rfl (fun c13 => ?_) (fun c13 => ?_)
       ·
        exact no_t c13 (show (A.scmp .neq s_5 g9) = false from by subst hA; simp [std, s2, p3])
       ·
        refine gk (gs (gr (ra hA 1 (by cbv) ?_)))
        refine ops_step rfl rfl (int_add hA rfl rfl rfl t4) ?_
        refine ra hA 1 (by cbv) (od ?_)
        refine gs (gr (ra hA 2 (by cbv) ?_))
        refine ops_step rfl rfl (idx_sl rfl rfl rfl rfl rfl h05 rfl hget) ?_
        refine ra hA 4 (by cbv) ?_
        have u1 : Real Try.prog 117 [.sl 1 s_6, .int .i64 c_6] (.int .i64 c_7) := by
         subst m7; rw [m8]; exact r_laws_heldStringS A hA a7 c_6 q2 (le_cn s7 hr6 e7)
        refine ops_callV rfl rfl (by cbv) (by cbv) u1 (.inl trivial) (by cbv) ?_
        refine ra hA 1 (by cbv) (od ?_)
        refine gs (gs (gr (ra hA 2 (by cbv) (od ?_))))
        refine go_cond rfl (fun c16 => ?_) (fun c16 => ?_)
        ·
         have s5 : c_7 < 0 := lss_t hA c16
         exact absurd s5 (Int.not_lt.2 g7.1)
        ·
         have s5 : 0 ≤ c_7 := lss_f hA c16
         refine gk (gs (gr (ra hA 2 (by cbv) ?_)))
         refine ops_step rfl rfl (idx_sl rfl rfl rfl rfl rfl h05 rfl hget) ?_
         refine ra hA 4 (by cbv) ?_
         have u2 : Real Try.prog 117 [.sl 1 s_7, .int .i64 c_7] (.int .i64 c_8) := by
          subst n1; rw [n2]; exact r_laws_heldStringS A hA a4 c_7 g7.1 (le_cn g7.2 hr7 e8)
         refine ops_callV rfl rfl (by cbv) (by cbv) u2 (.inl trivial) (by cbv) ?_
         refine ra hA 1 (by cbv) (od ?_)
         refine gs (gs (gr (ra hA 2 (by cbv) (od ?_))))
         refine go_cond rfl (fun c19 => ?_) (fun c19 => ?_)
         ·
          have p6 : c_8 < 0 := lss_t hA c19
          exact absurd p6 (Int.not_lt.2 l6.1)
         ·
          have p6 : 0 ≤ c_8 := lss_f hA c19
          refine gk (gs (gs (gr (ra hA 2 (by cbv) ?_))))
          refine ops_step rfl rfl (idx_sl rfl rfl rfl rfl rfl h05 rfl hget) ?_
          refine ra hA 5 (by cbv) (od ?_)
          refine go_cond rfl (fun c20 => ?_) (fun c20 => ?_)
          ·
           exact no_t c20 (show (A.cmp .neq c_8 c_8) = false from by subst hA; simp [std])
          ·
           refine gk (gs (gr (ra hA 1 (by cbv) ?_)))
           refine ops_step rfl rfl (int_add hA rfl rfl rfl t1) ?_
           refine ra hA 1 (by cbv) (od ?_)
           refine gs (gs ?_)
           refine go_draw (by cbv) ?_
           refine rd hA 2 (by cbv) ?_
           refine dops_step rfl rfl rfl (idx_sl rfl rfl rfl rfl rfl h05 rfl hget) ?_
           refine rd hA 4 (by cbv) ?_
           obtain ⟨g3, n6, u9⟩ : ∃ (g3 : ByteArray), g3 = (mt c_9) ∧ Real Try.prog 44 [.int .i64 c_9] (.str g3) := ⟨_, rfl, by exact r_laws_markText A hA c_9 q9 (le_k q7 e9)⟩
           refine dops_callV rfl rfl (by cbv) (by cbv) u9 (.inr rfl) ?_
           refine rd hA 1 (by cbv) (dd_ ?_)
           refine go_cond rfl (fun c23 => ?_) (fun c23 => ?_)
           ·
            exact no_t c23 (show (A.scmp .neq s_9 g3) = false from by subst hA; simp [std, p7, n6])
           ·
            refine gk (gs (gr (ra hA 1 (by cbv) ?_)))
            refine ops_step rfl rfl (int_add hA rfl rfl rfl s0) ?_
            refine ra hA 1 (by cbv) (od ?_)
            refine gs (gr (ra hA 2 (by cbv) ?_))
            refine ops_step rfl rfl (idx_sl rfl rfl rfl rfl rfl h05 rfl hget) ?_
            refine ra hA 4 (by cbv) ?_
            have v0 : Real Try.prog 118 [.sl 3 k7, .int .i64 m2] (.int .i64 g6) := by
             subst k3; rw [l0]; exact r_laws_heldMailS A hA a1 m2 o1 (le_cn o9 d7 e11)
            refine ops_callV rfl rfl (by cbv) (by cbv) v0 (.inl trivial) (by cbv) ?_
            refine ra hA 1 (by cbv) (od ?_)
            refine gs (gs (gr (ra hA 2 (by cbv) (od ?_))))
            refine go_cond rfl (fun c26 => ?_) (fun c26 => ?_)
            ·
             have q8 : g6 < 0 := lss_t hA c26
             exact absurd q8 (Int.not_lt.2 g1.1)
            ·
             have q8 : 0 ≤ g6 := lss_f hA c26
             refine gk (gs (gr (ra hA 2 (by cbv) ?_)))
             refine ops_step rfl rfl (idx_sl rfl rfl rfl rfl rfl h05 rfl hget) ?_
             refine ra hA 4 (by cbv) ?_
             have v1 : Real Try.prog 119 [.sl 1 m0, .int .i64 g6] (.int .i64 g5) := by
              subst l7; rw [k8]; exact r_laws_heldBoolS A hA a3 g6 g1.1 (le_cn g1.2 d9 e12)
             refine ops_callV rfl rfl (by cbv) (by cbv) v1 (.inl trivial) (by cbv) ?_
             refine ra hA 1 (by cbv) (od ?_)
             refine gs (gs (gr (ra hA 2 (by cbv) (od ?_))))
             refine go_cond rfl (fun c29 => ?_) (fun c29 => ?_)
             ·
              have s4 : g5 < 0 := lss_t hA c29
              exact absurd s4 (Int.not_lt.2 j2.1)
             ·
              have s4 : 0 ≤ g5 := lss_f hA c29
              refine gk (gs (gs (gr (ra hA 2 (by cbv) ?_))))
              refine ops_step rfl rfl (idx_sl rfl rfl rfl rfl rfl h05 rfl hget) ?_
              refine ra hA 5 (by cbv) (od ?_)
              refine go_cond rfl (fun c30 => ?_) (fun c30 => ?_)
              ·
               exact no_t c30 (show (A.cmp .neq g5 g5) = false from by subst hA; simp [std])
              ·
               refine gk (gs (gr (ra hA 1 (by cbv) ?_)))
               refine ops_step rfl rfl (int_add hA rfl rfl rfl p8) ?_
               refine ra hA 1 (by cbv) (od ?_)
               refine gs (gs ?_)
               refine go_draw (by cbv) ?_
               refine rd hA 2 (by cbv) ?_
               refine dops_step rfl rfl rfl (idx_sl rfl rfl rfl rfl rfl h05 rfl hget) ?_
               refine rd hA 4 (by cbv) ?_
               obtain ⟨g4, n3, u8⟩ : ∃ (g4 : ByteArray), g4 = (mt m1) ∧ Real Try.prog 44 [.int .i64 m1] (.str g4) := ⟨_, rfl, by exact r_laws_markText A hA m1 o0 (le_k o8 e13)⟩
               refine dops_callV rfl rfl (by cbv) (by cbv) u8 (.inr rfl) ?_
               refine rd hA 1 (by cbv) (dd_ ?_)
               refine go_cond rfl (fun c33 => ?_) (fun c33 => ?_)
               ·
                exact no_t c33 (show (A.scmp .neq m5 g4) = false from by subst hA; simp [std, o2, n3])
               ·
                refine gk (gs (gr (ra hA 1 (by cbv) ?_)))
                refine ops_step rfl rfl (int_add hA rfl rfl rfl s8) ?_
                refine ra hA 1 (by cbv) (od ?_)
                refine gs (gs ?_)
                refine go_draw (by cbv) ?_
                refine rd hA 2 (by cbv) ?_
                refine dops_step rfl rfl rfl (idx_sl rfl rfl rfl rfl rfl h05 rfl hget) ?_
                refine rd hA 4 (by cbv) ?_
                obtain ⟨g2, n8, t9⟩ : ∃ (g2 : ByteArray), g2 = (mt k4) ∧ Real Try.prog 44 [.int .i64 k4] (.str g2) := ⟨_, rfl, by exact r_laws_markText A hA k4 o3 (le_k o5 e14)⟩
                refine dops_callV rfl rfl (by cbv) (by cbv) t9 (.inr rfl) ?_
                refine rd hA 1 (by cbv) (dd_ ?_)
                refine go_cond rfl (fun c36 => ?_) (fun c36 => ?_)
                ·
                 exact no_t c36 (show (A.scmp .neq m9 g2) = false from by subst hA; simp [std, o7, n8])
                ·
                 refine gk (gs (gr (ra hA 1 (by cbv) ?_)))
                 refine ops_step rfl rfl (int_add hA rfl rfl rfl p4) ?_
                 refine ra hA 1 (by cbv) (od ?_)
                 refine gs (gs (gr (ra hA 2 (by cbv) ?_)))
                 refine ops_step rfl rfl (idx_sl rfl rfl rfl rfl rfl h05 rfl hget) ?_
                 refine ra hA 5 (by cbv) (od ?_)
                 refine go_cond rfl (fun c37 => ?_) (fun c37 => ?_)
                 ·
                  exact no_t c37 (show (A.cmp .neq l2 l2) = false from by subst hA; simp [std])
                 ·
                  refine gk (gs (gr (ra hA 1 (by cbv) ?_)))
                  refine ops_step rfl rfl (int_add hA rfl rfl rfl q3) ?_
                  refine ra hA 1 (by cbv) (od ?_)
                  refine gs (gr (ra hA 2 (by cbv) ?_))
                  refine ops_step rfl rfl (idx_sl rfl rfl rfl rfl rfl h05 rfl hget) ?_
                  refine ra hA 4 (by cbv) ?_
                  have u7 : Real Try.prog 46 [.sl 1 k5, .int .i64 m3] (.int .i64 j9) := by
                   subst l8; rw [l3]; exact r_laws_heldIntS A hA a5 m3 o6 (le_cn o4 f0 e17)
                  refine ops_callV rfl rfl (by cbv) (by cbv) u7 (.inl trivial) (by cbv) ?_
                  refine ra hA 1 (by cbv) (od ?_)
                  refine gs (gr (ra hA 2 (by cbv) (od ?_)))
                  refine go_cond rfl (fun c40 => ?_) (fun c40 => ?_)
                  ·
                   have s6 : j9 < 0 := lss_t hA c40
                   exact absurd s6 (Int.not_lt.2 m4.1)
                  ·
                   have s6 : 0 ≤ j9 := lss_f hA c40
                   refine gk (gr (ra hA 3 (by cbv) (od ?_)))
                   refine ⟨(S79_1 a_r j9 (A.num .add .i64 n5 1)), List.length x - (i + 1), ?_, by cbv, i + 1, (A.num .add .i64 n5 1), j9, rfl, ?_, rfl⟩
                   ·
                    exact hdec
                   ·
                    exact ⟨c7, hi1, fin_k m4.2 f6 hrce hkk cat⟩
 ·
  have ec1 : (A.rlen a_r) ≤ n5 := lss_f hA c1
  refine go_exit ⟨fun _ => ?_, fun h => absurd rfl h⟩
  refine gs (gr (ra hA 2 (by cbv) (od ?_)))
  refine go_ret ⟨_, by cbv, ?_⟩
  show _ = (PV.int .i64 kk)
  refine congrArg (PV.int .i64) ?_
  rw [hkk, List.take_of_length_le (by omega)]
theorem r_laws_heldState (A : Alg) (hA : A = std) (x : GState) (k : Int) (h0 : 0 ≤ k) (h1 : k + cnState x ≤ 1099511627776) : Real Try.prog 78 [.agg (eState (mkState k x)), .int .i64 k] (.int .i64 (k + cnBoxS x.Boxes)) := by
 obtain ⟨b7⟩ := x
 obtain ⟨a0, ha0⟩ := nm (List.map eBox (mkBoxS (k) b7) : RR)
 have nn0 := cnBoxS_nn b7
 have h1 : k + (cnBoxS b7) ≤ 1099511627776 := h1
 refine real_args (args' := [.agg [.sl 5 a0], .int .i64 k]) (by subst ha0; rfl) ?_
 refine real tyOk Try.func78 (by kernel_rfl) (afun_of rfl ?_)
 refine gs (gr (ra hA 2 (by cbv) (od ?_)))
 refine gs (gr (ra hA 3 (by cbv) ?_))
 have v5 := cnBoxS_nn b7
 obtain ⟨q1, hq1, hc2⟩ : ∃ q : Int, q = k + cnBoxS b7 ∧ Real Try.prog 116 [.sl 5 a0, .int .i64 k] (.int .i64 q) := ⟨_, rfl, by
  subst ha0; exact r_laws_heldBoxS A hA b7 k (by omega) (by omega)⟩
 have nq1 : 0 ≤ q1 := by omega
 refine ops_callV rfl rfl (by cbv) (by cbv) hc2 (.inl trivial) (by cbv) ?_
 refine ra hA 1 (by cbv) (od ?_)
 refine gs (gs (gr (ra hA 2 (by cbv) (od ?_))))
 refine go_cond rfl (fun c3 => ?_) (fun c3 => ?_)
 ·
  have ec3 : q1 < 0 := lss_t hA c3
  exact absurd ec3 (Int.not_lt.2 nq1)
 ·
  have ec3 : 0 ≤ q1 := lss_f hA c3
  refine gk (gs (gr (ra hA 2 (by cbv) (od ?_))))
  refine go_ret ⟨_, by cbv, ?_⟩
  show _ = (PV.int .i64 q1)
  subst hq1
  rfl
theorem r_laws_heldPlain (A : Alg) (hA : A = std) (x : GPlain) (k : Int) (h0 : 0 ≤ k) (h1 : k + cnPlain x ≤ 1099511627776) : Real Try.prog 38 [.agg (ePlain (mkPlain k x)), .int .i64 k] (.int .i64 (k + cnBoxS x.State.Boxes + cnSessionS x.Sessions)) := by
 obtain ⟨⟨a6⟩, k2, b0⟩ := x
 obtain ⟨a0, ha0⟩ := nm (List.map eBox (mkBoxS (k) a6) : RR)
 have nn0 := cnBoxS_nn a6
 obtain ⟨a2, ha2⟩ := nm (List.map eSession (mkSessionS (k + cnBoxS a6) b0) : RR)
 have nn2 := cnSessionS_nn b0
 have h1 : k + (cnBoxS a6 + cnSessionS b0) ≤ 1099511627776 := h1
 refine real_args (args' := [.agg [.sl 5 a0, .int .i64 k2, .sl 17 a2], .int .i64 k]) (by subst ha0 ha2; rfl) ?_
 refine real tyOk Try.func38 (by kernel_rfl) (afun_of rfl ?_)
 refine gs (gr (ra hA 2 (by cbv) (od ?_)))
 refine gs (gr (ra hA 3 (by cbv) ?_))
 have v9 : cnState (⟨a6⟩ : GState) = cnBoxS a6 := rfl
 obtain ⟨q1, hq1, hc2⟩ : ∃ q : Int, q = k + cnBoxS a6 ∧ Real Try.prog 78 [.agg [.sl 5 a0], .int .i64 k] (.int .i64 q) := ⟨_, rfl, by
  subst ha0; exact r_laws_heldState A hA (⟨a6⟩ : GState) k (by omega) (by omega)⟩
 have nq1 : 0 ≤ q1 := by omega
 refine ops_callV rfl rfl (by cbv) (by cbv) hc2 (.inl trivial) (by cbv) ?_
 refine ra hA 1 (by cbv) (od ?_)
 refine gs (gs (gr (ra hA 2 (by cbv) (od ?_))))
 refine go_cond rfl (fun c3 => ?_) (fun c3 => ?_)
 ·
  have ec3 : q1 < 0 := lss_t hA c3
  exact absurd ec3 (Int.not_lt.2 nq1)
 ·
  have ec3 : 0 ≤ q1 := lss_f hA c3
  refine gk (gs (gr (ra hA 3 (by cbv) ?_)))
  have v6 := cnSessionS_nn b0
  obtain ⟨q4, hq4, hc5⟩ : ∃ q : Int, q = q1 + cnSessionS b0 ∧ Real Try.prog 79 [.sl 17 a2, .int .i64 q1] (.int .i64 q) := ⟨_, rfl, by
   subst ha2; subst hq1; exact r_laws_heldSessionS A hA b0 _ (by omega) (by omega)⟩
  have nq4 : 0 ≤ q4 := by omega
  refine ops_callV rfl rfl (by cbv) (by cbv) hc5 (.inl trivial) (by cbv) ?_
  refine ra hA 1 (by cbv) (od ?_)
  refine gs (gs (gr (ra hA 2 (by cbv) (od ?_))))
  refine go_cond rfl (fun c6 => ?_) (fun c6 => ?_)
  ·
   have ec6 : q4 < 0 := lss_t hA c6
   exact absurd ec6 (Int.not_lt.2 nq4)
  ·
   have ec6 : 0 ≤ q4 := lss_f hA c6
   refine gk (gs (gr (ra hA 2 (by cbv) (od ?_))))
   refine go_ret ⟨_, by cbv, ?_⟩
   show _ = (PV.int .i64 q4)
   subst hq1 hq4
   rfl
end Go.Av

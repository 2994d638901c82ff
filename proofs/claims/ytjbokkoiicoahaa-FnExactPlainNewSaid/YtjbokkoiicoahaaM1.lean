/- Walks: marks. -/
import Derived.Test.YtjbokkoiicoahaaTm
namespace Go.Av
open Go Go.Proofs
set_option maxRecDepth 100000
set_option maxHeartbeats 4000000
set_option linter.unusedVariables false
set_option linter.unusedSimpArgs false
theorem mb_eq {A : Alg} (hA : A = std) {a b : Int} (h : a = b) : A.cmp .eql (A.num .rem .i64 a 3) 0 = mb b := by subst hA; subst h; rfl
theorem add_one {A : Alg} (hA : A = std) {k r s t : Int} (p : 0 ≤ k) (q : k + r ≤ 1099511627776 ∧ k + r = t) (hr : r = 1 + s) (e : 0 ≤ s) : ∃ v : Int, v = k + 1 ∧ A.num .add .i64 k 1 = v ∧ 0 ≤ v ∧ v + s ≤ 1099511627776 ∧ v + s = t := ⟨k + 1, rfl, add_i64 hA (by omega) (by omega), by omega, by omega, by omega⟩
theorem add_cn {k v c r s t : Int} (hv : v = k + c) (p : 0 ≤ k) (q : k + r ≤ 1099511627776 ∧ k + r = t) (hr : r = c + s) (n : 0 ≤ c) : 0 ≤ v ∧ v + s ≤ 1099511627776 ∧ v + s = t := ⟨by omega, by omega, by omega⟩
theorem le_cn {k c r s t : Int} (q : k + r ≤ 1099511627776 ∧ k + r = t) (hr : r = c + s) (e : 0 ≤ s) : k + c ≤ 1099511627776 := by omega
theorem le_k {k r t : Int} (q : k + r ≤ 1099511627776 ∧ k + r = t) (e : 0 ≤ r) : k ≤ 1099511627776 := by omega
theorem nn_add {a b : Int} (h : 0 ≤ a) (g : 0 ≤ b) : 0 ≤ a + b := by omega
theorem fin_k {kn rn kk r0 k c c' ce : Int} (h : kn + rn ≤ 1099511627776 ∧ kn + rn = kk + r0) (hn : rn = 0) (h0 : r0 = ce) (hkk : kk = k + c) (cat : c' = c + ce) : kn = k + c' := by omega
theorem tdiv10 {k : Int} (h : 0 ≤ k) : k.tdiv 10 = k / 10 := Int.tdiv_eq_ediv_of_nonneg h
theorem quo_i64 {A : Alg} (hA : A = std) {k : Int} (h1 : 0 ≤ k) (h2 : k ≤ 1099511627776) : A.num .quo .i64 k 10 = k / 10 := by
 subst hA
 have h : IntKind.i64.wrap (k.tdiv 10) = k.tdiv 10 := by
  rw [tdiv10 h1]; exact wrap_id (by omega) (by omega)
 rw [← tdiv10 h1]; exact h
theorem dig_eq {A : Alg} (hA : A = std) (k : Int) : A.ofB [[.int .u8 (A.cnv .u8 (A.num .add .i64 48 (A.num .rem .i64 k 10)))]] = dig k := by subst hA; rfl
theorem dig_size (k : Int) : (dig k).size = 1 := by simp [dig, strOfNums_size]
theorem mtGo_pos {k : Int} (out : ByteArray) (h : 0 < k) : mtGo k out = mtGo (k / 10) (dig k ++ out) := by rw [mtGo, dif_pos h, tdiv10 (by omega)]
theorem mtGo_zero {k : Int} (out : ByteArray) (h : k ≤ 0) : mtGo k out = out := by rw [mtGo, dif_neg (by omega)]
def S44_1 (p0 : Int) (p1 : ByteArray) : St := { sl := [.int .i64 p0, .bad, .bad, .str p1, .bad, .bad, .bad, .bad, .bad, .bad, .bad, .bad, .bad, .bad, .bad, .bad, .bad, .bad, .bad, .bad], bl := [] }
theorem r_laws_markText (A : Alg) (hA : A = std) (k : Int) (h0 : 0 ≤ k) (h1 : k ≤ 1099511627776) : Real Try.prog 44 [.int .i64 k] (.str (mt k)) := by
 refine real_args (args' := [.int .i64 k]) (by rfl) ?_
 refine real tyOk Try.func44 (by kernel_rfl) (afun_of rfl ?_)
 refine gs (gr (ra hA 1 (by cbv) (od ?_)))
 refine gs (gs (gr (ra hA 2 (by cbv) (od ?_))))
 refine go_cond rfl (fun c1 => ?_) (fun c1 => ?_)
 ·
  have ec1 : k ≤ 0 := leq_t hA c1
  refine gs (gr (ra hA 1 (by cbv) (od ?_)))
  refine go_ret ⟨_, by cbv, ?_⟩
  show _ = (PV.str (ByteArray.mk #[109, 48]))
  refine congrArg PV.str ?_
  rw [mt, if_pos (by omega)]
 ·
  have ec1 : 0 < k := leq_f hA c1
  refine gk (gs (gr (ra hA 1 (by cbv) (od ?_))))
  refine gs ?_
  refine go_block ?_
  refine go_loopE (fun σ m => ∃ (kk : Int) (out : ByteArray), σ = (S44_1 kk out) ∧ (0 ≤ kk ∧ kk ≤ 1099511627776 ∧ (ByteArray.size out : Int) + kk ≤ 1099511627776 ∧ mtGo k (ByteArray.mk #[]) = mtGo kk out) ∧ m = Int.toNat kk) _ [] [0, 3] [] (S44_1 k (ByteArray.mk #[])) rfl (by cbv) ⟨k, (ByteArray.mk #[]), rfl, ?_, rfl⟩ (fun σ m hI => ?_)
  ·
   exact ⟨by omega, by omega, by show ((0 : Nat) : Int) + k ≤ _; omega, rfl⟩
  obtain ⟨kk, out, rfl, ⟨hk0, hk1, hs, hm⟩, rfl⟩ := hI
  refine gs (gs (gr (ra hA 2 (by cbv) (od ?_))))
  refine go_cond rfl (fun c2 => ?_) (fun c2 => ?_)
  ·
   have ec2 : 0 < kk := gtr_t hA c2
   refine gk ?_
   refine go_block ?_
   refine gs (gr (ra hA 7 (by cbv) ?_))
   obtain ⟨s3, hs3⟩ := nm ((A.ofB [[.int .u8 (A.cnv .u8 (A.num .add .i64 48 (A.num .rem .i64 kk 10)))]]) ++ out : ByteArray)
   have zs3 : ByteArray.size s3 = ByteArray.size (A.ofB [[.int .u8 (A.cnv .u8 (A.num .add .i64 48 (A.num .rem .i64 kk 10)))]]) + ByteArray.size out := by rw [hs3]; exact ByteArray.size_append
   have bs3 : ByteArray.size (A.ofB [[.int .u8 (A.cnv .u8 (A.num .add .i64 48 (A.num .rem .i64 kk 10)))]]) + ByteArray.size out ≤ 140737488355328 := by
    first
    | (rw [dig_eq hA, dig_size]; omega)
    | (show 1 + _ ≤ _; omega)
   refine ops_step rfl rfl (str_add rfl rfl rfl hs3 bs3) ?_
   refine ra hA 1 (by cbv) (od ?_)
   refine gr (ra hA 3 (by cbv) (od ?_))
   refine ⟨(S44_1 (A.num .quo .i64 kk 10) s3), Int.toNat (A.num .quo .i64 kk 10), ?_, by cbv, (A.num .quo .i64 kk 10), s3, rfl, ?_, rfl⟩
   ·
    rw [quo_i64 hA (by omega) (by omega)]; omega
   ·
    rw [quo_i64 hA (by omega) (by omega)]
    rw [dig_eq hA] at hs3 zs3
    rw [dig_size] at zs3
    exact ⟨by omega, by omega, by omega, by rw [hm, mtGo_pos _ (by omega), hs3]⟩
  ·
   have ec2 : kk ≤ 0 := gtr_f hA c2
   refine go_exit ⟨fun _ => ?_, fun h => absurd rfl h⟩
   refine gs (gr (ra hA 1 (by cbv) ?_))
   obtain ⟨s4, hs4⟩ := nm ((ByteArray.mk #[109]) ++ out : ByteArray)
   have zs4 : ByteArray.size s4 = ByteArray.size (ByteArray.mk #[109]) + ByteArray.size out := by rw [hs4]; exact ByteArray.size_append
   have bs4 : ByteArray.size (ByteArray.mk #[109]) + ByteArray.size out ≤ 140737488355328 := by
    first
    | (rw [dig_eq hA, dig_size]; omega)
    | (show 1 + _ ≤ _; omega)
   refine ops_step rfl rfl (str_add rfl rfl rfl hs4 bs4) ?_
   refine ra hA 1 (by cbv) (od ?_)
   refine go_ret ⟨_, by cbv, ?_⟩
   show _ = (PV.str s4)
   refine congrArg PV.str ?_
   rw [mt, if_neg (by omega), hs4]; rw [hm, mtGo_zero _ (by omega)]
def S36_1 (hv : Nat → Value) (p0 : Int) (p1 : Int) (p2 : RR) : St := { sl := [.own 1000000000, .int .i64 p0, .bad, .bad, .bad, .int .i64 p1, .bad, .bad, .bad, .bad, .bad, .bad, .bad, .bad, .bad, .bad, .bad, .bad, .bad, .bad], bl := [(1000000000, ⟨.arr, 1, p2⟩)], hd := [(1000000000, hv 1000000000)] }
theorem m_laws_markStringS (A : Alg) (hA : A = std) (x : List ByteArray) (k : Int) (h0 : 0 ≤ k) (h1 : k + cnStringS x ≤ 1099511627776) : RealM Try.prog 36 [.ow 1 (List.map eString x), .int .i64 k] [.ow 1 (List.map eString (mkStringS k x)), .int .i64 k] (.int .i64 (k + cnStringS x)) := by
 obtain ⟨x_r, a6⟩ := nm (x.map eString)
 have c8 := rlen_map hA a6
 refine realM_args (args1 := [.ow 1 x_r, .int .i64 k]) (by subst a6; rfl) rfl ?_
 have h2 : (List.length x : Int) ≤ 1099511627776 := by have := cnStringS_ge x; omega
 refine realM tyOk Try.func36 (by kernel_rfl) (afunM_of rfl (by cbv) (fun hv => ?_))
 refine gs (gB (ra hA 1 (by cbv) (oz ?_)))
 refine gs (gs (gB (ra hA 1 (by cbv) (oz ?_))))
 refine go_block ?_
 refine go_loopE (fun σ m => ∃ (i : Nat) (ro : RR) (n5 : Int) (kk : Int), σ = (S36_1 hv kk n5 ro) ∧ (n5 = (i : Int) ∧ i ≤ List.length x ∧ kk = k + cnStringS (x.take i) ∧ ro = List.map eString (mkStringS k (x.take i) ++ x.drop i)) ∧ m = List.length x - i) _ [] [0, 1, 5] [1000000000] (S36_1 hv k 0 x_r) rfl (by cbv) ⟨0, x_r, 0, k, rfl, ?_, rfl⟩ (fun σ m hI => ?_)
 ·
  exact ⟨rfl, Nat.zero_le _, by simp [cnStringS], a6⟩
 obtain ⟨i, ro, n5, kk, rfl, ⟨hn5, hi, hkk, hro⟩, rfl⟩ := hI
 have hlro : (List.length ro : Int) = List.length x := by
  rw [hro]; simp only [List.length_map, List.length_append, mkStringS_len, List.length_take, List.length_drop]; omega
 have lro : A.rlen ro = (List.length x : Int) := by
  rw [rlen_map hA hro]; simp only [List.length_append, mkStringS_len, List.length_take, List.length_drop]; omega
 refine gs (gs (gB (ra hA 4 (by cbv) (oz ?_))))
 refine go_cond rfl (fun c1 => ?_) (fun c1 => ?_)
 ·
  have ec1 : n5 < (A.rlen ro) := lss_t hA c1
  refine gk (gs ?_)
  refine go_block ?_
  refine gs ?_
  have h05 : (0 : Int) ≤ n5 := by omega
  have hlt : Int.toNat n5 < List.length x := by omega
  obtain ⟨y, hy⟩ : ∃ y, x[Int.toNat n5]? = some y := ⟨_, List.getElem?_eq_getElem hlt⟩
  have hyi : x[i]? = some y := by have h := hy; rw [hn5] at h; exact h
  have cat := cnStringS_at hyi
  have cle := cnStringS_le x (i + 1)
  have cnn := cnStringS_nn (x.take i)
  have cce : ceString y = 1 := rfl
  have b1 : ro = List.map eString (mkStringS k (x.take i) ++ y :: x.drop (i + 1)) := by
   rw [hro, ← drop_at hyi]
  have b4 : ro[Int.toNat n5]? = some (eString y) := by
   rw [b1, hn5]; exact mark_get (by rw [mkStringS_len, List.length_take]; omega)
  have hzro : ro[Int.toNat n5]? = some [.str y] := by exact b4
  obtain ⟨r1, hr1, e1⟩ : ∃ r : Int, r = 0 ∧ 0 ≤ r := ⟨0, rfl, by decide⟩
  obtain ⟨r0, hr0, e0⟩ : ∃ r : Int, r = 1 + r1 ∧ 0 ≤ r := ⟨_, rfl, nn_add (by decide) e1⟩
  have p0 : 0 ≤ kk := by clear hr1 e1 hr0 e0; omega
  have hrce : r0 = ceString y := by subst hr1 hr0; rw [cce]; omega
  have q0 : kk + r0 ≤ 1099511627776 ∧ kk + r0 = kk + r0 := ⟨by clear hr1 e1 hr0 e0; omega, rfl⟩
  have b0 : n5 < (List.length x : Int) := by clear hr1 e1 hr0 e0; omega
  have hi1 : i + 1 ≤ List.length x := by clear hr1 e1 hr0 e0; omega
  have b8 : A.num .add .i64 n5 1 = ((i + 1 : Nat) : Int) := by
   clear hr1 e1 hr0 e0; rw [add_i64 hA (by omega) (by omega)]; omega
  have hlen : i = List.length (mkStringS k (x.take i)) := by rw [mkStringS_len, List.length_take]; clear hr1 e1 hr0 e0; omega
  have hdec : List.length x - (i + 1) < List.length x - i := by clear hr1 e1 hr0 e0; omega
  refine gB (ra hA 3 (by cbv) ?_)
  obtain ⟨b2, f9, hc3⟩ : ∃ (b2 : ByteArray), b2 = (mt kk) ∧ Real Try.prog 44 [.int .i64 kk] (.str b2) := ⟨_, rfl, by exact r_laws_markText A hA kk p0 (le_k q0 e0)⟩
  refine ops_callV rfl rfl (by cbv) (by cbv) hc3 (.inr rfl) (by cbv) ?_
  have k3 : n5 < (List.length ro : Int) := by rw [hlro]; exact b0
  refine ops_step rfl rfl (idx_own rfl rfl rfl rfl rfl rfl h05 k3 rfl) ?_
  obtain ⟨o5, ho5⟩ : ∃ r, r = ro.set (Int.toNat n5) [.str b2] := ⟨_, rfl⟩
  have go5 : o5 = ro.set (Int.toNat n5) [.str b2] := ho5
  have l5 : (List.length o5 : Int) = List.length x := by rw [go5, List.length_set]; exact hlro
  have l3 : o5[(Int.toNat n5)]? = some [.str b2] := by rw [go5]; exact set_self hzro
  have k0 : o5 = ro.set (Int.toNat n5) [.str b2] := go5
  refine ops_step rfl rfl (sto_arr (r := [.str y]) (cs := [.str b2]) rfl rfl rfl rfl rfl ⟨_, _, rfl⟩ rfl rfl hzro rfl ho5) ?_
  refine oz ?_
  refine gB (ra hA 1 (by cbv) ?_)
  obtain ⟨k6, wk6, k1, pk6, qk6⟩ := add_one hA p0 q0 hr0 e1
  refine ops_step rfl rfl (int_add hA rfl rfl rfl k1) ?_
  refine ra hA 1 (by cbv) (oz ?_)
  refine gB (ra hA 1 (by cbv) (ra hA 1 (by cbv) (ra hA 1 (by cbv) (oz ?_))))
  refine ⟨(S36_1 hv k6 (A.num .add .i64 n5 1) o5), List.length x - (i + 1), ?_, by cbv, i + 1, o5, (A.num .add .i64 n5 1), k6, rfl, ?_, rfl⟩
  ·
   exact hdec
  ·
   have hrow : ([.str b2] : List PV) = eString (meString kk y) := by
    subst wk6
    show _ = ([_] : List PV)
    exact congr (congrArg List.cons (congrArg PV.str f9)) (rfl)
   refine ⟨b8, hi1, fin_k qk6 hr1 hrce hkk cat, ?_⟩
   rw [k0, hrow, b1, hn5, mkStringS_at k hyi, ← hkk]
   exact mark_set (hlen.symm.trans (Int.toNat_natCast i).symm)
 ·
  have ec1 : (A.rlen ro) ≤ n5 := lss_f hA c1
  refine go_exit ⟨fun _ => ?_, fun h => absurd rfl h⟩
  refine gs (gB (ra hA 2 (by cbv) (oz ?_)))
  refine go_ret ⟨⟨rfl, trivial⟩, Eq.trans (b := some [.ow 1 ro, .int .i64 k]) (by cbv) ?_, _, by cbv, ?_⟩
  ·
   rw [hro, List.take_of_length_le (by omega), List.drop_of_length_le (by omega), List.append_nil]
  ·
   show _ = (PV.int .i64 kk)
   refine congrArg (PV.int .i64) ?_
   rw [hkk, List.take_of_length_le (by omega)]
def S45_1 (hv : Nat → Value) (p0 : Int) (p1 : Int) (p2 : RR) : St := { sl := [.own 1000000000, .int .i64 p0, .bad, .bad, .bad, .int .i64 p1, .bad, .bad, .bad, .bad, .bad, .bad, .bad, .bad, .bad, .bad, .bad, .bad, .bad], bl := [(1000000000, ⟨.arr, 1, p2⟩)], hd := [(1000000000, hv 1000000000)] }
theorem m_laws_markIntS (A : Alg) (hA : A = std) (x : List Int) (k : Int) (h0 : 0 ≤ k) (h1 : k + cnIntS x ≤ 1099511627776) : RealM Try.prog 45 [.ow 1 (List.map eInt x), .int .i64 k] [.ow 1 (List.map eInt (mkIntS k x)), .int .i64 k] (.int .i64 (k + cnIntS x)) := by
 obtain ⟨x_r, a6⟩ := nm (x.map eInt)
 have c8 := rlen_map hA a6
 refine realM_args (args1 := [.ow 1 x_r, .int .i64 k]) (by subst a6; rfl) rfl ?_
 have h2 : (List.length x : Int) ≤ 1099511627776 := by have := cnIntS_ge x; omega
 refine realM tyOk Try.func45 (by kernel_rfl) (afunM_of rfl (by cbv) (fun hv => ?_))
 refine gs (gB (ra hA 1 (by cbv) (oz ?_)))
 refine gs (gs (gB (ra hA 1 (by cbv) (oz ?_))))
 refine go_block ?_
 refine go_loopE (fun σ m => ∃ (i : Nat) (ro : RR) (n5 : Int) (kk : Int), σ = (S45_1 hv kk n5 ro) ∧ (n5 = (i : Int) ∧ i ≤ List.length x ∧ kk = k + cnIntS (x.take i) ∧ ro = List.map eInt (mkIntS k (x.take i) ++ x.drop i)) ∧ m = List.length x - i) _ [] [0, 1, 5] [1000000000] (S45_1 hv k 0 x_r) rfl (by cbv) ⟨0, x_r, 0, k, rfl, ?_, rfl⟩ (fun σ m hI => ?_)
 ·
  exact ⟨rfl, Nat.zero_le _, by simp [cnIntS], a6⟩
 obtain ⟨i, ro, n5, kk, rfl, ⟨hn5, hi, hkk, hro⟩, rfl⟩ := hI
 have hlro : (List.length ro : Int) = List.length x := by
  rw [hro]; simp only [List.length_map, List.length_append, mkIntS_len, List.length_take, List.length_drop]; omega
 have lro : A.rlen ro = (List.length x : Int) := by
  rw [rlen_map hA hro]; simp only [List.length_append, mkIntS_len, List.length_take, List.length_drop]; omega
 refine gs (gs (gB (ra hA 4 (by cbv) (oz ?_))))
 refine go_cond rfl (fun c1 => ?_) (fun c1 => ?_)
 ·
  have ec1 : n5 < (A.rlen ro) := lss_t hA c1
  refine gk (gs ?_)
  refine go_block ?_
  refine gs ?_
  have h05 : (0 : Int) ≤ n5 := by omega
  have hlt : Int.toNat n5 < List.length x := by omega
  obtain ⟨y, hy⟩ : ∃ y, x[Int.toNat n5]? = some y := ⟨_, List.getElem?_eq_getElem hlt⟩
  have hyi : x[i]? = some y := by have h := hy; rw [hn5] at h; exact h
  have cat := cnIntS_at hyi
  have cle := cnIntS_le x (i + 1)
  have cnn := cnIntS_nn (x.take i)
  have cce : ceInt y = 1 := rfl
  have b1 : ro = List.map eInt (mkIntS k (x.take i) ++ y :: x.drop (i + 1)) := by
   rw [hro, ← drop_at hyi]
  have b4 : ro[Int.toNat n5]? = some (eInt y) := by
   rw [b1, hn5]; exact mark_get (by rw [mkIntS_len, List.length_take]; omega)
  have hzro : ro[Int.toNat n5]? = some [.int .i64 y] := by exact b4
  obtain ⟨r1, hr1, e1⟩ : ∃ r : Int, r = 0 ∧ 0 ≤ r := ⟨0, rfl, by decide⟩
  obtain ⟨r0, hr0, e0⟩ : ∃ r : Int, r = 1 + r1 ∧ 0 ≤ r := ⟨_, rfl, nn_add (by decide) e1⟩
  have p0 : 0 ≤ kk := by clear hr1 e1 hr0 e0; omega
  have hrce : r0 = ceInt y := by subst hr1 hr0; rw [cce]; omega
  have q0 : kk + r0 ≤ 1099511627776 ∧ kk + r0 = kk + r0 := ⟨by clear hr1 e1 hr0 e0; omega, rfl⟩
  have b0 : n5 < (List.length x : Int) := by clear hr1 e1 hr0 e0; omega
  have hi1 : i + 1 ≤ List.length x := by clear hr1 e1 hr0 e0; omega
  have b8 : A.num .add .i64 n5 1 = ((i + 1 : Nat) : Int) := by
   clear hr1 e1 hr0 e0; rw [add_i64 hA (by omega) (by omega)]; omega
  have hlen : i = List.length (mkIntS k (x.take i)) := by rw [mkIntS_len, List.length_take]; clear hr1 e1 hr0 e0; omega
  have hdec : List.length x - (i + 1) < List.length x - i := by clear hr1 e1 hr0 e0; omega
  refine gB (ra hA 3 (by cbv) ?_)
  have c0 : n5 < (List.length ro : Int) := by rw [hlro]; exact b0
  refine ops_step rfl rfl (idx_own rfl rfl rfl rfl rfl rfl h05 c0 rfl) ?_
  obtain ⟨o3, ho3⟩ : ∃ r, r = ro.set (Int.toNat n5) [.int .i64 kk] := ⟨_, rfl⟩
  have go3 : o3 = ro.set (Int.toNat n5) [.int .i64 kk] := ho3
  have c5 : (List.length o3 : Int) = List.length x := by rw [go3, List.length_set]; exact hlro
  have c4 : o3[(Int.toNat n5)]? = some [.int .i64 kk] := by rw [go3]; exact set_self hzro
  have c3 : o3 = ro.set (Int.toNat n5) [.int .i64 kk] := go3
  refine ops_step rfl rfl (sto_arr (r := [.int .i64 y]) (cs := [.int .i64 kk]) rfl rfl rfl rfl rfl ⟨_, _, rfl⟩ rfl rfl hzro rfl ho3) ?_
  refine oz ?_
  refine gB (ra hA 1 (by cbv) ?_)
  obtain ⟨k4, wk4, c6, pk4, qk4⟩ := add_one hA p0 q0 hr0 e1
  refine ops_step rfl rfl (int_add hA rfl rfl rfl c6) ?_
  refine ra hA 1 (by cbv) (oz ?_)
  refine gB (ra hA 1 (by cbv) (ra hA 1 (by cbv) (ra hA 1 (by cbv) (oz ?_))))
  refine ⟨(S45_1 hv k4 (A.num .add .i64 n5 1) o3), List.length x - (i + 1), ?_, by cbv, i + 1, o3, (A.num .add .i64 n5 1), k4, rfl, ?_, rfl⟩
  ·
   exact hdec
  ·
   have hrow : ([.int .i64 kk] : List PV) = eInt (meInt kk y) := by
    subst wk4
    show _ = ([_] : List PV)
    exact congr (congrArg List.cons (congrArg (PV.int .i64) rfl)) (rfl)
   refine ⟨b8, hi1, fin_k qk4 hr1 hrce hkk cat, ?_⟩
   rw [c3, hrow, b1, hn5, mkIntS_at k hyi, ← hkk]
   exact mark_set (hlen.symm.trans (Int.toNat_natCast i).symm)
 ·
  have ec1 : (A.rlen ro) ≤ n5 := lss_f hA c1
  refine go_exit ⟨fun _ => ?_, fun h => absurd rfl h⟩
  refine gs (gB (ra hA 2 (by cbv) (oz ?_)))
  refine go_ret ⟨⟨rfl, trivial⟩, Eq.trans (b := some [.ow 1 ro, .int .i64 k]) (by cbv) ?_, _, by cbv, ?_⟩
  ·
   rw [hro, List.take_of_length_le (by omega), List.drop_of_length_le (by omega), List.append_nil]
  ·
   show _ = (PV.int .i64 kk)
   refine congrArg (PV.int .i64) ?_
   rw [hkk, List.take_of_length_le (by omega)]
def S115_1 (hv : Nat → Value) (p0 : Int) (p1 : Int) (p2 : RR) : St := { sl := [.own 1000000000, .int .i64 p0, .bad, .bad, .bad, .int .i64 p1, .bad, .bad, .bad, .bad, .bad, .bad, .bad, .bad, .bad, .bad, .bad, .bad, .bad, .bad, .bad], bl := [(1000000000, ⟨.arr, 1, p2⟩)], hd := [(1000000000, hv 1000000000)] }
theorem m_laws_markBoolS (A : Alg) (hA : A = std) (x : List Bool) (k : Int) (h0 : 0 ≤ k) (h1 : k + cnBoolS x ≤ 1099511627776) : RealM Try.prog 115 [.ow 1 (List.map eBool x), .int .i64 k] [.ow 1 (List.map eBool (mkBoolS k x)), .int .i64 k] (.int .i64 (k + cnBoolS x)) := by
 obtain ⟨x_r, a6⟩ := nm (x.map eBool)
 have c8 := rlen_map hA a6
 refine realM_args (args1 := [.ow 1 x_r, .int .i64 k]) (by subst a6; rfl) rfl ?_
 have h2 : (List.length x : Int) ≤ 1099511627776 := by have := cnBoolS_ge x; omega
 refine realM tyOk Try.func115 (by kernel_rfl) (afunM_of rfl (by cbv) (fun hv => ?_))
 refine gs (gB (ra hA 1 (by cbv) (oz ?_)))
 refine gs (gs (gB (ra hA 1 (by cbv) (oz ?_))))
 refine go_block ?_
 refine go_loopE (fun σ m => ∃ (i : Nat) (ro : RR) (n5 : Int) (kk : Int), σ = (S115_1 hv kk n5 ro) ∧ (n5 = (i : Int) ∧ i ≤ List.length x ∧ kk = k + cnBoolS (x.take i) ∧ ro = List.map eBool (mkBoolS k (x.take i) ++ x.drop i)) ∧ m = List.length x - i) _ [] [0, 1, 5] [1000000000] (S115_1 hv k 0 x_r) rfl (by cbv) ⟨0, x_r, 0, k, rfl, ?_, rfl⟩ (fun σ m hI => ?_)
 ·
  exact ⟨rfl, Nat.zero_le _, by simp [cnBoolS], a6⟩
 obtain ⟨i, ro, n5, kk, rfl, ⟨hn5, hi, hkk, hro⟩, rfl⟩ := hI
 have hlro : (List.length ro : Int) = List.length x := by
  rw [hro]; simp only [List.length_map, List.length_append, mkBoolS_len, List.length_take, List.length_drop]; omega
 have lro : A.rlen ro = (List.length x : Int) := by
  rw [rlen_map hA hro]; simp only [List.length_append, mkBoolS_len, List.length_take, List.length_drop]; omega
 refine gs (gs (gB (ra hA 4 (by cbv) (oz ?_))))
 refine go_cond rfl (fun c1 => ?_) (fun c1 => ?_)
 ·
  have ec1 : n5 < (A.rlen ro) := lss_t hA c1
  refine gk (gs ?_)
  refine go_block ?_
  refine gs ?_
  have h05 : (0 : Int) ≤ n5 := by omega
  have hlt : Int.toNat n5 < List.length x := by omega
  obtain ⟨y, hy⟩ : ∃ y, x[Int.toNat n5]? = some y := ⟨_, List.getElem?_eq_getElem hlt⟩
  have hyi : x[i]? = some y := by have h := hy; rw [hn5] at h; exact h
  have cat := cnBoolS_at hyi
  have cle := cnBoolS_le x (i + 1)
  have cnn := cnBoolS_nn (x.take i)
  have cce : ceBool y = 1 := rfl
  have b1 : ro = List.map eBool (mkBoolS k (x.take i) ++ y :: x.drop (i + 1)) := by
   rw [hro, ← drop_at hyi]
  have b4 : ro[Int.toNat n5]? = some (eBool y) := by
   rw [b1, hn5]; exact mark_get (by rw [mkBoolS_len, List.length_take]; omega)
  have hzro : ro[Int.toNat n5]? = some [.bool y] := by exact b4
  obtain ⟨r1, hr1, e1⟩ : ∃ r : Int, r = 0 ∧ 0 ≤ r := ⟨0, rfl, by decide⟩
  obtain ⟨r0, hr0, e0⟩ : ∃ r : Int, r = 1 + r1 ∧ 0 ≤ r := ⟨_, rfl, nn_add (by decide) e1⟩
  have p0 : 0 ≤ kk := by clear hr1 e1 hr0 e0; omega
  have hrce : r0 = ceBool y := by subst hr1 hr0; rw [cce]; omega
  have q0 : kk + r0 ≤ 1099511627776 ∧ kk + r0 = kk + r0 := ⟨by clear hr1 e1 hr0 e0; omega, rfl⟩
  have b0 : n5 < (List.length x : Int) := by clear hr1 e1 hr0 e0; omega
  have hi1 : i + 1 ≤ List.length x := by clear hr1 e1 hr0 e0; omega
  have b8 : A.num .add .i64 n5 1 = ((i + 1 : Nat) : Int) := by
   clear hr1 e1 hr0 e0; rw [add_i64 hA (by omega) (by omega)]; omega
  have hlen : i = List.length (mkBoolS k (x.take i)) := by rw [mkBoolS_len, List.length_take]; clear hr1 e1 hr0 e0; omega
  have hdec : List.length x - (i + 1) < List.length x - i := by clear hr1 e1 hr0 e0; omega
  refine gB (ra hA 5 (by cbv) ?_)
  have c0 : n5 < (List.length ro : Int) := by rw [hlro]; exact b0
  refine ops_step rfl rfl (idx_own rfl rfl rfl rfl rfl rfl h05 c0 rfl) ?_
  obtain ⟨o3, ho3⟩ : ∃ r, r = ro.set (Int.toNat n5) [.bool (A.cmp .eql (A.num .rem .i64 kk 3) 0)] := ⟨_, rfl⟩
  have go3 : o3 = ro.set (Int.toNat n5) [.bool (A.cmp .eql (A.num .rem .i64 kk 3) 0)] := ho3
  have c5 : (List.length o3 : Int) = List.length x := by rw [go3, List.length_set]; exact hlro
  have c4 : o3[(Int.toNat n5)]? = some [.bool (A.cmp .eql (A.num .rem .i64 kk 3) 0)] := by rw [go3]; exact set_self hzro
  have c3 : o3 = ro.set (Int.toNat n5) [.bool (A.cmp .eql (A.num .rem .i64 kk 3) 0)] := go3
  refine ops_step rfl rfl (sto_arr (r := [.bool y]) (cs := [.bool (A.cmp .eql (A.num .rem .i64 kk 3) 0)]) rfl rfl rfl rfl rfl ⟨_, _, rfl⟩ rfl rfl hzro rfl ho3) ?_
  refine oz ?_
  refine gB (ra hA 1 (by cbv) ?_)
  obtain ⟨k4, wk4, c6, pk4, qk4⟩ := add_one hA p0 q0 hr0 e1
  refine ops_step rfl rfl (int_add hA rfl rfl rfl c6) ?_
  refine ra hA 1 (by cbv) (oz ?_)
  refine gB (ra hA 1 (by cbv) (ra hA 1 (by cbv) (ra hA 1 (by cbv) (oz ?_))))
  refine ⟨(S115_1 hv k4 (A.num .add .i64 n5 1) o3), List.length x - (i + 1), ?_, by cbv, i + 1, o3, (A.num .add .i64 n5 1), k4, rfl, ?_, rfl⟩
  ·
   exact hdec
  ·
   have hrow : ([.bool (A.cmp .eql (A.num .rem .i64 kk 3) 0)] : List PV) = eBool (meBool kk y) := by
    subst wk4
    show _ = ([_] : List PV)
    exact congr (congrArg List.cons (congrArg PV.bool (mb_eq hA rfl))) (rfl)
   refine ⟨b8, hi1, fin_k qk4 hr1 hrce hkk cat, ?_⟩
   rw [c3, hrow, b1, hn5, mkBoolS_at k hyi, ← hkk]
   exact mark_set (hlen.symm.trans (Int.toNat_natCast i).symm)
 ·
  have ec1 : (A.rlen ro) ≤ n5 := lss_f hA c1
  refine go_exit ⟨fun _ => ?_, fun h => absurd rfl h⟩
  refine gs (gB (ra hA 2 (by cbv) (oz ?_)))
  refine go_ret ⟨⟨rfl, trivial⟩, Eq.trans (b := some [.ow 1 ro, .int .i64 k]) (by cbv) ?_, _, by cbv, ?_⟩
  ·
   rw [hro, List.take_of_length_le (by omega), List.drop_of_length_le (by omega), List.append_nil]
  ·
   show _ = (PV.int .i64 kk)
   refine congrArg (PV.int .i64) ?_
   rw [hkk, List.take_of_length_le (by omega)]
def S114_1 (hv : Nat → Value) (p0 : Int) (p1 : Int) (p2 : RR) : St := { sl := [.own 1000000000, .int .i64 p0, .bad, .bad, .bad, .int .i64 p1, .bad, .bad, .bad, .bad, .bad, .bad, .bad, .bad, .bad, .bad, .bad, .bad, .bad, .bad, .bad, .bad, .bad, .bad, .bad, .bad, .bad, .bad, .bad, .bad, .bad, .bad, .bad, .bad, .bad], bl := [(1000000000, ⟨.arr, 3, p2⟩)], hd := [(1000000000, hv 1000000000)] }
theorem m_laws_markMailS (A : Alg) (hA : A = std) (x : List GMail) (k : Int) (h0 : 0 ≤ k) (h1 : k + cnMailS x ≤ 1099511627776) : RealM Try.prog 114 [.ow 3 (List.map eoMail x), .int .i64 k] [.ow 3 (List.map eoMail (mkMailS k x)), .int .i64 k] (.int .i64 (k + cnMailS x)) := by
 obtain ⟨x_r, a6⟩ := nm (x.map eoMail)
 have c8 := rlen_map hA a6
 refine realM_args (args1 := [.ow 3 x_r, .int .i64 k]) (by subst a6; rfl) rfl ?_
 have h2 : (List.length x : Int) ≤ 1099511627776 := by have := cnMailS_ge x; omega
 refine realM tyOk Try.func114 (by kernel_rfl) (afunM_of rfl (by cbv) (fun hv => ?_))
 refine gs (gB (ra hA 1 (by cbv) (oz ?_)))
 refine gs (gs (gB (ra hA 1 (by cbv) (oz ?_))))
 refine go_block ?_
 refine go_loopE (fun σ m => ∃ (i : Nat) (ro : RR) (n5 : Int) (kk : Int), σ = (S114_1 hv kk n5 ro) ∧ (n5 = (i : Int) ∧ i ≤ List.length x ∧ kk = k + cnMailS (x.take i) ∧ ro = List.map eoMail (mkMailS k (x.take i) ++ x.drop i)) ∧ m = List.length x - i) _ [] [0, 1, 5] [1000000000] (S114_1 hv k 0 x_r) rfl (by cbv) ⟨0, x_r, 0, k, rfl, ?_, rfl⟩ (fun σ m hI => ?_)
 ·
  exact ⟨rfl, Nat.zero_le _, by simp [cnMailS], a6⟩
 obtain ⟨i, ro, n5, kk, rfl, ⟨hn5, hi, hkk, hro⟩, rfl⟩ := hI
 have hlro : (List.length ro : Int) = List.length x := by
  rw [hro]; simp only [List.length_map, List.length_append, mkMailS_len, List.length_take, List.length_drop]; omega
 have lro : A.rlen ro = (List.length x : Int) := by
  rw [rlen_map hA hro]; simp only [List.length_append, mkMailS_len, List.length_take, List.length_drop]; omega
 refine gs (gs (gB (ra hA 4 (by cbv) (oz ?_))))
 refine go_cond rfl (fun c1 => ?_) (fun c1 => ?_)
 ·
  have ec1 : n5 < (A.rlen ro) := lss_t hA c1
  refine gk (gs ?_)
  refine go_block ?_
  refine gs ?_
  have h05 : (0 : Int) ≤ n5 := by omega
  have hlt : Int.toNat n5 < List.length x := by omega
  obtain ⟨y, hy⟩ : ∃ y, x[Int.toNat n5]? = some y := ⟨_, List.getElem?_eq_getElem hlt⟩
  have hyi : x[i]? = some y := by have h := hy; rw [hn5] at h; exact h
  have cat := cnMailS_at hyi
  have cle := cnMailS_le x (i + 1)
  have cnn := cnMailS_nn (x.take i)
  have cce : ceMail y = _ := rfl
  have b1 : ro = List.map eoMail (mkMailS k (x.take i) ++ y :: x.drop (i + 1)) := by
   rw [hro, ← drop_at hyi]
  have b4 : ro[Int.toNat n5]? = some (eoMail y) := by
   rw [b1, hn5]; exact mark_get (by rw [mkMailS_len, List.length_take]; omega)
  obtain ⟨c7, a8, a5⟩ := y
  have hzro : ro[Int.toNat n5]? = some [.int .i64 c7, .int .i64 a8, .str a5] := by exact b4
  have cce : ceMail (⟨c7, a8, a5⟩ : GMail) = 1 + 1 + 1 := rfl
  obtain ⟨r3, hr3, e3⟩ : ∃ r : Int, r = 0 ∧ 0 ≤ r := ⟨0, rfl, by decide⟩
  obtain ⟨r2, hr2, e2⟩ : ∃ r : Int, r = 1 + r3 ∧ 0 ≤ r := ⟨_, rfl, nn_add (by decide) e3⟩
  obtain ⟨r1, hr1, e1⟩ : ∃ r : Int, r = 1 + r2 ∧ 0 ≤ r := ⟨_, rfl, nn_add (by decide) e2⟩
  obtain ⟨r0, hr0, e0⟩ : ∃ r : Int, r = 1 + r1 ∧ 0 ≤ r := ⟨_, rfl, nn_add (by decide) e1⟩
  have p0 : 0 ≤ kk := by clear hr3 e3 hr2 e2 hr1 e1 hr0 e0; omega
  have hrce : r0 = ceMail (⟨c7, a8, a5⟩ : GMail) := by subst hr3 hr2 hr1 hr0; rw [cce]; omega
  have q0 : kk + r0 ≤ 1099511627776 ∧ kk + r0 = kk + r0 := ⟨by clear hr3 e3 hr2 e2 hr1 e1 hr0 e0; omega, rfl⟩
  have b0 : n5 < (List.length x : Int) := by clear hr3 e3 hr2 e2 hr1 e1 hr0 e0; omega
  have hi1 : i + 1 ≤ List.length x := by clear hr3 e3 hr2 e2 hr1 e1 hr0 e0; omega
  have b8 : A.num .add .i64 n5 1 = ((i + 1 : Nat) : Int) := by
   clear hr3 e3 hr2 e2 hr1 e1 hr0 e0; rw [add_i64 hA (by omega) (by omega)]; omega
  have hlen : i = List.length (mkMailS k (x.take i)) := by rw [mkMailS_len, List.length_take]; clear hr3 e3 hr2 e2 hr1 e1 hr0 e0; omega
  have hdec : List.length x - (i + 1) < List.length x - i := by clear hr3 e3 hr2 e2 hr1 e1 hr0 e0; omega
  refine gB (ra hA 3 (by cbv) ?_)
  have c0 : n5 < (List.length ro : Int) := by rw [hlro]; exact b0
  refine ops_step rfl rfl (idx_own rfl rfl rfl rfl rfl rfl h05 c0 rfl) ?_
  refine ra hA 1 (by cbv) ?_
  obtain ⟨o3, ho3⟩ : ∃ r, r = ro.set (Int.toNat n5) [.int .i64 kk, .int .i64 a8, .str a5] := ⟨_, rfl⟩
  have go3 : o3 = ro.set (Int.toNat n5) [.int .i64 kk, .int .i64 a8, .str a5] := ho3
  have c5 : (List.length o3 : Int) = List.length x := by rw [go3, List.length_set]; exact hlro
  have c4 : o3[(Int.toNat n5)]? = some [.int .i64 kk, .int .i64 a8, .str a5] := by rw [go3]; exact set_self hzro
  have c3 : o3 = ro.set (Int.toNat n5) [.int .i64 kk, .int .i64 a8, .str a5] := go3
  refine ops_step rfl rfl (sto_arr (r := [.int .i64 c7, .int .i64 a8, .str a5]) (cs := [.int .i64 kk]) rfl rfl rfl rfl rfl ⟨_, _, rfl⟩ rfl rfl hzro rfl ho3) ?_
  refine oz ?_
  refine gs (gB (ra hA 1 (by cbv) ?_))
  obtain ⟨k4, wk4, c6, pk4, qk4⟩ := add_one hA p0 q0 hr0 e1
  refine ops_step rfl rfl (int_add hA rfl rfl rfl c6) ?_
  refine ra hA 1 (by cbv) (oz ?_)
  refine gs (gB (ra hA 3 (by cbv) ?_))
  have j4 : n5 < (List.length o3 : Int) := by rw [c5]; exact b0
  refine ops_step rfl rfl (idx_own rfl rfl rfl rfl rfl rfl h05 j4 rfl) ?_
  refine ra hA 1 (by cbv) ?_
  obtain ⟨o6, ho6⟩ : ∃ r, r = o3.set (Int.toNat n5) [.int .i64 kk, .int .i64 k4, .str a5] := ⟨_, rfl⟩
  have go6 : o6 = o3.set (Int.toNat n5) [.int .i64 kk, .int .i64 k4, .str a5] := ho6
  have e7 : (List.length o6 : Int) = List.length x := by rw [go6, List.length_set]; exact c5
  have f5 : o6[(Int.toNat n5)]? = some [.int .i64 kk, .int .i64 k4, .str a5] := by rw [go6]; exact set_self c4
  have j6 : o6 = ro.set (Int.toNat n5) [.int .i64 kk, .int .i64 k4, .str a5] := by rw [go6, c3, List.set_set]
  refine ops_step rfl rfl (sto_arr (r := [.int .i64 kk, .int .i64 a8, .str a5]) (cs := [.int .i64 k4]) rfl rfl rfl rfl rfl ⟨_, _, rfl⟩ rfl rfl c4 rfl ho6) ?_
  refine oz ?_
  refine gs (gB (ra hA 1 (by cbv) ?_))
  obtain ⟨k7, wk7, k2, pk7, qk7⟩ := add_one hA pk4 qk4 hr1 e2
  refine ops_step rfl rfl (int_add hA rfl rfl rfl k2) ?_
  refine ra hA 1 (by cbv) (oz ?_)
  refine gs (gB (ra hA 3 (by cbv) ?_))
  obtain ⟨b3, e9, hc9⟩ : ∃ (b3 : ByteArray), b3 = (mt k7) ∧ Real Try.prog 44 [.int .i64 k7] (.str b3) := ⟨_, rfl, by exact r_laws_markText A hA k7 pk7 (le_k qk7 e2)⟩
  refine ops_callV rfl rfl (by cbv) (by cbv) hc9 (.inr rfl) (by cbv) ?_
  have g3 : n5 < (List.length o6 : Int) := by rw [e7]; exact b0
  refine ops_step rfl rfl (idx_own rfl rfl rfl rfl rfl rfl h05 g3 rfl) ?_
  refine ra hA 1 (by cbv) ?_
  obtain ⟨o11, f6⟩ : ∃ r, r = o6.set (Int.toNat n5) [.int .i64 kk, .int .i64 k4, .str b3] := ⟨_, rfl⟩
  have d4 : o11 = o6.set (Int.toNat n5) [.int .i64 kk, .int .i64 k4, .str b3] := f6
  have l0 : (List.length o11 : Int) = List.length x := by rw [d4, List.length_set]; exact e7
  have l2 : o11[(Int.toNat n5)]? = some [.int .i64 kk, .int .i64 k4, .str b3] := by rw [d4]; exact set_self f5
  have g1 : o11 = ro.set (Int.toNat n5) [.int .i64 kk, .int .i64 k4, .str b3] := by rw [d4, j6, List.set_set]
  refine ops_step rfl rfl (sto_arr (r := [.int .i64 kk, .int .i64 k4, .str a5]) (cs := [.str b3]) rfl rfl rfl rfl rfl ⟨_, _, rfl⟩ rfl rfl f5 rfl f6) ?_
  refine oz ?_
  refine gB (ra hA 1 (by cbv) ?_)
  obtain ⟨k12, j5, g2, l4, j9⟩ := add_one hA pk7 qk7 hr2 e3
  refine ops_step rfl rfl (int_add hA rfl rfl rfl g2) ?_
  refine ra hA 1 (by cbv) (oz ?_)
  refine gB (ra hA 1 (by cbv) (ra hA 1 (by cbv) (ra hA 1 (by cbv) (oz ?_))))
  refine ⟨(S114_1 hv k12 (A.num .add .i64 n5 1) o11), List.length x - (i + 1), ?_, by cbv, i + 1, o11, (A.num .add .i64 n5 1), k12, rfl, ?_, rfl⟩
  ·
   exact hdec
  ·
   have hrow : ([.int .i64 kk, .int .i64 k4, .str b3] : List PV) = eoMail (meMail kk (⟨c7, a8, a5⟩ : GMail)) := by
    subst wk4 wk7 j5
    show _ = ([_, _, _] : List PV)
    exact congr (congrArg List.cons (congrArg (PV.int .i64) rfl)) (congr (congrArg List.cons (congrArg (PV.int .i64) rfl)) (congr (congrArg List.cons (congrArg PV.str e9)) (rfl)))
   refine ⟨b8, hi1, fin_k j9 hr3 hrce hkk cat, ?_⟩
   rw [g1, hrow, b1, hn5, mkMailS_at k hyi, ← hkk]
   exact mark_set (hlen.symm.trans (Int.toNat_natCast i).symm)
 ·
  have ec1 : (A.rlen ro) ≤ n5 := lss_f hA c1
  refine go_exit ⟨fun _ => ?_, fun h => absurd rfl h⟩
  refine gs (gB (ra hA 2 (by cbv) (oz ?_)))
  refine go_ret ⟨⟨rfl, trivial⟩, Eq.trans (b := some [.ow 3 ro, .int .i64 k]) (by cbv) ?_, _, by cbv, ?_⟩
  ·
   rw [hro, List.take_of_length_le (by omega), List.drop_of_length_le (by omega), List.append_nil]
  ·
   show _ = (PV.int .i64 kk)
   refine congrArg (PV.int .i64) ?_
   rw [hkk, List.take_of_length_le (by omega)]
def S113_1 (hv : Nat → Value) (p0 : Int) (p1 : Int) (p2 : RR) : St := { sl := [.own 1000000000, .int .i64 p0, .bad, .bad, .bad, .int .i64 p1, .bad, .bad, .bad, .bad, .bad, .bad, .bad, .bad, .bad, .bad, .bad, .bad, .bad, .bad, .bad, .bad, .bad, .bad, .bad, .bad, .bad, .bad, .bad, .bad, .bad, .bad, .bad, .bad, .bad, .bad, .bad, .bad, .bad, .bad, .bad, .bad, .bad, .bad, .bad, .bad, .bad, .bad, .bad, .bad], bl := [(1000000000, ⟨.arr, 5, p2⟩)], hd := [(1000000000, hv 1000000000)] }
theorem m_laws_markBoxS (A : Alg) (hA : A = std) (x : List GBox) (k : Int) (h0 : 0 ≤ k) (h1 : k + cnBoxS x ≤ 1099511627776) : RealM Try.prog 113 [.ow 5 (List.map eoBox x), .int .i64 k] [.ow 5 (List.map eoBox (mkBoxS k x)), .int .i64 k] (.int .i64 (k + cnBoxS x)) := by
 obtain ⟨x_r, a6⟩ := nm (x.map eoBox)
 have c8 := rlen_map hA a6
 refine realM_args (args1 := [.ow 5 x_r, .int .i64 k]) (by subst a6; rfl) rfl ?_
 have h2 : (List.length x : Int) ≤ 1099511627776 := by have := cnBoxS_ge x; omega
 refine realM tyOk Try.func113 (by kernel_rfl) (afunM_of rfl (by cbv) (fun hv => ?_))
 refine gs (gB (ra hA 1 (by cbv) (oz ?_)))
 refine gs (gs (gB (ra hA 1 (by cbv) (oz ?_))))
 refine go_block ?_
 refine go_loopE (fun σ m => ∃ (i : Nat) (ro : RR) (n5 : Int) (kk : Int), σ = (S113_1 hv kk n5 ro) ∧ (n5 = (i : Int) ∧ i ≤ List.length x ∧ kk = k + cnBoxS (x.take i) ∧ ro = List.map eoBox (mkBoxS k (x.take i) ++ x.drop i)) ∧ m = List.length x - i) _ [] [0, 1, 5] [1000000000] (S113_1 hv k 0 x_r) rfl (by cbv) ⟨0, x_r, 0, k, rfl, ?_, rfl⟩ (fun σ m hI => ?_)
 ·
  exact ⟨rfl, Nat.zero_le _, by simp [cnBoxS], a6⟩
 obtain ⟨i, ro, n5, kk, rfl, ⟨hn5, hi, hkk, hro⟩, rfl⟩ := hI
 have hlro : (List.length ro : Int) = List.length x := by
  rw [hro]; simp only [List.length_map, List.length_append, mkBoxS_len, List.length_take, List.length_drop]; omega
 have lro : A.rlen ro = (List.length x : Int) := by
  rw [rlen_map hA hro]; simp only [List.length_append, mkBoxS_len, List.length_take, List.length_drop]; omega
 refine gs (gs (gB (ra hA 4 (by cbv) (oz ?_))))
 refine go_cond rfl (fun c1 => ?_) (fun c1 => ?_)
 ·
  have ec1 : n5 < (A.rlen ro) := lss_t hA c1
  refine gk (gs ?_)
  refine go_block ?_
  refine gs ?_
  have h05 : (0 : Int) ≤ n5 := by omega
  have hlt : Int.toNat n5 < List.length x := by omega
  obtain ⟨y, hy⟩ : ∃ y, x[Int.toNat n5]? = some y := ⟨_, List.getElem?_eq_getElem hlt⟩
  have hyi : x[i]? = some y := by have h := hy; rw [hn5] at h; exact h
  have cat := cnBoxS_at hyi
  have cle := cnBoxS_le x (i + 1)
  have cnn := cnBoxS_nn (x.take i)
  have cce : ceBox y = _ := rfl
  have b1 : ro = List.map eoBox (mkBoxS k (x.take i) ++ y :: x.drop (i + 1)) := by
   rw [hro, ← drop_at hyi]
  have b4 : ro[Int.toNat n5]? = some (eoBox y) := by
   rw [b1, hn5]; exact mark_get (by rw [mkBoxS_len, List.length_take]; omega)
  obtain ⟨b6, a9, a4, a3, a7⟩ := y
  obtain ⟨a0, b7⟩ := nm (a7.map eoMail)
  have i5 := rlen_map hA b7
  have hzro : ro[Int.toNat n5]? = some [.int .i64 b6, .str a9, .str a4, .int .i64 a3, .ow 3 a0] := by subst b7; exact b4
  have b9 := cnMailS_nn a7
  have cce : ceBox (⟨b6, a9, a4, a3, a7⟩ : GBox) = 1 + 1 + 1 + 1 + cnMailS a7 := rfl
  obtain ⟨r5, hr5, e5⟩ : ∃ r : Int, r = 0 ∧ 0 ≤ r := ⟨0, rfl, by decide⟩
  obtain ⟨r4, hr4, e4⟩ : ∃ r : Int, r = cnMailS a7 + r5 ∧ 0 ≤ r := ⟨_, rfl, nn_add b9 e5⟩
  obtain ⟨r3, hr3, e3⟩ : ∃ r : Int, r = 1 + r4 ∧ 0 ≤ r := ⟨_, rfl, nn_add (by decide) e4⟩
  obtain ⟨r2, hr2, e2⟩ : ∃ r : Int, r = 1 + r3 ∧ 0 ≤ r := ⟨_, rfl, nn_add (by decide) e3⟩
  obtain ⟨r1, hr1, e1⟩ : ∃ r : Int, r = 1 + r2 ∧ 0 ≤ r := ⟨_, rfl, nn_add (by decide) e2⟩
  obtain ⟨r0, hr0, e0⟩ : ∃ r : Int, r = 1 + r1 ∧ 0 ≤ r := ⟨_, rfl, nn_add (by decide) e1⟩
  have p0 : 0 ≤ kk := by clear hr5 e5 hr4 e4 hr3 e3 hr2 e2 hr1 e1 hr0 e0; omega
  have hrce : r0 = ceBox (⟨b6, a9, a4, a3, a7⟩ : GBox) := by subst hr5 hr4 hr3 hr2 hr1 hr0; rw [cce]; omega
  have q0 : kk + r0 ≤ 1099511627776 ∧ kk + r0 = kk + r0 := ⟨by clear hr5 e5 hr4 e4 hr3 e3 hr2 e2 hr1 e1 hr0 e0; omega, rfl⟩
  have b0 : n5 < (List.length x : Int) := by clear hr5 e5 hr4 e4 hr3 e3 hr2 e2 hr1 e1 hr0 e0; omega
  have hi1 : i + 1 ≤ List.length x := by clear hr5 e5 hr4 e4 hr3 e3 hr2 e2 hr1 e1 hr0 e0; omega
  have b8 : A.num .add .i64 n5 1 = ((i + 1 : Nat) : Int) := by
   clear hr5 e5 hr4 e4 hr3 e3 hr2 e2 hr1 e1 hr0 e0; rw [add_i64 hA (by omega) (by omega)]; omega
  have hlen : i = List.length (mkBoxS k (x.take i)) := by rw [mkBoxS_len, List.length_take]; clear hr5 e5 hr4 e4 hr3 e3 hr2 e2 hr1 e1 hr0 e0; omega
  have hdec : List.length x - (i + 1) < List.length x - i := by clear hr5 e5 hr4 e4 hr3 e3 hr2 e2 hr1 e1 hr0 e0; omega
  refine gB (ra hA 3 (by cbv) ?_)
  have c0 : n5 < (List.length ro : Int) := by rw [hlro]; exact b0
  refine ops_step rfl rfl (idx_own rfl rfl rfl rfl rfl rfl h05 c0 rfl) ?_
  refine ra hA 1 (by cbv) ?_
  obtain ⟨o3, ho3⟩ : ∃ r, r = ro.set (Int.toNat n5) [.int .i64 kk, .str a9, .str a4, .int .i64 a3, .ow 3 a0] := ⟨_, rfl⟩
  have go3 : o3 = ro.set (Int.toNat n5) [.int .i64 kk, .str a9, .str a4, .int .i64 a3, .ow 3 a0] := ho3
  have c5 : (List.length o3 : Int) = List.length x := by rw [go3, List.length_set]; exact hlro
  have c4 : o3[(Int.toNat n5)]? = some [.int .i64 kk, .str a9, .str a4, .int .i64 a3, .ow 3 a0] := by rw [go3]; exact set_self hzro
  have c3 : o3 = ro.set (Int.toNat n5) [.int .i64 kk, .str a9, .str a4, .int .i64 a3, .ow 3 a0] := go3
  refine ops_step rfl rfl (sto_arr (r := [.int .i64 b6, .str a9, .str a4, .int .i64 a3, .ow 3 a0]) (cs := [.int .i64 kk]) rfl rfl rfl rfl rfl ⟨_, _, rfl⟩ rfl rfl hzro rfl ho3) ?_
  refine oz ?_
  refine gs (gB (ra hA 1 (by cbv) ?_))
  obtain ⟨k4, wk4, c6, pk4, qk4⟩ := add_one hA p0 q0 hr0 e1
  refine ops_step rfl rfl (int_add hA rfl rfl rfl c6) ?_
  refine ra hA 1 (by cbv) (oz ?_)
  refine gs (gB (ra hA 3 (by cbv) ?_))
  obtain ⟨a1, f1, hc6⟩ : ∃ (a1 : ByteArray), a1 = (mt k4) ∧ Real Try.prog 44 [.int .i64 k4] (.str a1) := ⟨_, rfl, by exact r_laws_markText A hA k4 pk4 (le_k qk4 e1)⟩
  refine ops_callV rfl rfl (by cbv) (by cbv) hc6 (.inr rfl) (by cbv) ?_
  have j2 : n5 < (List.length o3 : Int) := by rw [c5]; exact b0
  refine ops_step rfl rfl (idx_own rfl rfl rfl rfl rfl rfl h05 j2 rfl) ?_
  refine ra hA 1 (by cbv) ?_
  obtain ⟨o8, ho8⟩ : ∃ r, r = o3.set (Int.toNat n5) [.int .i64 kk, .str a1, .str a4, .int .i64 a3, .ow 3 a0] := ⟨_, rfl⟩
  have go8 : o8 = o3.set (Int.toNat n5) [.int .i64 kk, .str a1, .str a4, .int .i64 a3, .ow 3 a0] := ho8
  have f2 : (List.length o8 : Int) = List.length x := by rw [go8, List.length_set]; exact c5
  have f4 : o8[(Int.toNat n5)]? = some [.int .i64 kk, .str a1, .str a4, .int .i64 a3, .ow 3 a0] := by rw [go8]; exact set_self c4
  have j8 : o8 = ro.set (Int.toNat n5) [.int .i64 kk, .str a1, .str a4, .int .i64 a3, .ow 3 a0] := by rw [go8, c3, List.set_set]
  refine ops_step rfl rfl (sto_arr (r := [.int .i64 kk, .str a9, .str a4, .int .i64 a3, .ow 3 a0]) (cs := [.str a1]) rfl rfl rfl rfl rfl ⟨_, _, rfl⟩ rfl rfl c4 rfl ho8) ?_
  refine oz ?_
  refine gs (gB (ra hA 1 (by cbv) ?_))
  obtain ⟨k9, wk9, j7, pk9, qk9⟩ := add_one hA pk4 qk4 hr1 e2
  refine ops_step rfl rfl (int_add hA rfl rfl rfl j7) ?_
  refine ra hA 1 (by cbv) (oz ?_)
  refine gs (gB (ra hA 3 (by cbv) ?_))
  obtain ⟨a2, e6, j1⟩ : ∃ (a2 : ByteArray), a2 = (mt k9) ∧ Real Try.prog 44 [.int .i64 k9] (.str a2) := ⟨_, rfl, by exact r_laws_markText A hA k9 pk9 (le_k qk9 e2)⟩
  refine ops_callV rfl rfl (by cbv) (by cbv) j1 (.inr rfl) (by cbv) ?_
  have i3 : n5 < (List.length o8 : Int) := by rw [f2]; exact b0
  refine ops_step rfl rfl (idx_own rfl rfl rfl rfl rfl rfl h05 i3 rfl) ?_
  refine ra hA 1 (by cbv) ?_
  obtain ⟨o13, f8⟩ : ∃ r, r = o8.set (Int.toNat n5) [.int .i64 kk, .str a1, .str a2, .int .i64 a3, .ow 3 a0] := ⟨_, rfl⟩
  have d3 : o13 = o8.set (Int.toNat n5) [.int .i64 kk, .str a1, .str a2, .int .i64 a3, .ow 3 a0] := f8
  have d5 : (List.length o13 : Int) = List.length x := by rw [d3, List.length_set]; exact f2
  have d7 : o13[(Int.toNat n5)]? = some [.int .i64 kk, .str a1, .str a2, .int .i64 a3, .ow 3 a0] := by rw [d3]; exact set_self f4
  have i1 : o13 = ro.set (Int.toNat n5) [.int .i64 kk, .str a1, .str a2, .int .i64 a3, .ow 3 a0] := by rw [d3, j8, List.set_set]
  refine ops_step rfl rfl (sto_arr (r := [.int .i64 kk, .str a1, .str a4, .int .i64 a3, .ow 3 a0]) (cs := [.str a2]) rfl rfl rfl rfl rfl ⟨_, _, rfl⟩ rfl rfl f4 rfl f8) ?_
  refine oz ?_
  refine gs (gB (ra hA 1 (by cbv) ?_))
  obtain ⟨k14, i7, g6, j0, j3⟩ := add_one hA pk9 qk9 hr2 e3
  refine ops_step rfl rfl (int_add hA rfl rfl rfl g6) ?_
  refine ra hA 1 (by cbv) (oz ?_)
  refine gs (gB (ra hA 3 (by cbv) ?_))
  have i2 : n5 < (List.length o13 : Int) := by rw [d5]; exact b0
  refine ops_step rfl rfl (idx_own rfl rfl rfl rfl rfl rfl h05 i2 rfl) ?_
  refine ra hA 1 (by cbv) ?_
  obtain ⟨o16, f7⟩ : ∃ r, r = o13.set (Int.toNat n5) [.int .i64 kk, .str a1, .str a2, .int .i64 k14, .ow 3 a0] := ⟨_, rfl⟩
  have d2 : o16 = o13.set (Int.toNat n5) [.int .i64 kk, .str a1, .str a2, .int .i64 k14, .ow 3 a0] := f7
  have d8 : (List.length o16 : Int) = List.length x := by rw [d2, List.length_set]; exact d5
  have d6 : o16[(Int.toNat n5)]? = some [.int .i64 kk, .str a1, .str a2, .int .i64 k14, .ow 3 a0] := by rw [d2]; exact set_self d7
  have g7 : o16 = ro.set (Int.toNat n5) [.int .i64 kk, .str a1, .str a2, .int .i64 k14, .ow 3 a0] := by rw [d2, i1, List.set_set]
  refine ops_step rfl rfl (sto_arr (r := [.int .i64 kk, .str a1, .str a2, .int .i64 a3, .ow 3 a0]) (cs := [.int .i64 k14]) rfl rfl rfl rfl rfl ⟨_, _, rfl⟩ rfl rfl d7 rfl f7) ?_
  refine oz ?_
  refine gs (gB (ra hA 1 (by cbv) ?_))
  obtain ⟨k17, i9, i0, g0, f3⟩ := add_one hA j0 j3 hr3 e4
  refine ops_step rfl rfl (int_add hA rfl rfl rfl i0) ?_
  refine ra hA 1 (by cbv) (oz ?_)
  refine gB (ra hA 2 (by cbv) ?_)
  have g4 : n5 < (List.length o16 : Int) := by rw [d8]; exact b0
  refine ops_step rfl rfl (idx_own rfl rfl rfl rfl rfl rfl h05 g4 rfl) ?_
  refine ra hA 1 (by cbv) ?_
  refine ops_nestR rfl rfl rfl rfl rfl rfl rfl d6 rfl rfl (fun w20 o19 i8 => ?_)
  have d1 : o19 = o16.set (Int.toNat n5) [.int .i64 kk, .str a1, .str a2, .int .i64 k14, .raw w20] := i8
  have i4 : (List.length o19 : Int) = List.length x := by rw [d1, List.length_set]; exact d8
  have d9 : o19[(Int.toNat n5)]? = some [.int .i64 kk, .str a1, .str a2, .int .i64 k14, .raw w20] := by rw [d1]; exact set_self d6
  have g5 : o19 = ro.set (Int.toNat n5) [.int .i64 kk, .str a1, .str a2, .int .i64 k14, .raw w20] := by rw [d1, g7, List.set_set]
  refine ra hA 1 (by cbv) ?_
  obtain ⟨b5, m21, c9, e8, g9⟩ : ∃ (b5 : RR) (m21 : Int), b5 = List.map eoMail (mkMailS k17 a7) ∧ m21 = k17 + cnMailS a7 ∧ RealM Try.prog 114 [.ow 3 a0, .int .i64 k17] [.ow 3 b5, .int .i64 k17] (.int .i64 m21) := ⟨_, _, rfl, rfl, by subst b7; exact m_laws_markMailS A hA a7 k17 g0 (le_cn f3 hr4 e5)⟩
  have k5 := rlen_map hA c9
  have g8 := add_cn e8 g0 f3 hr4 b9
  refine ops_callM rfl (by cbv) (by cbv) (by cbv) g9 rfl (by cbv) ?_
  refine ra hA 1 (by cbv) ?_
  obtain ⟨o22, f0⟩ : ∃ r, r = o19.set (Int.toNat n5) [.int .i64 kk, .str a1, .str a2, .int .i64 k14, .ow 3 b5] := ⟨_, rfl⟩
  have d0 : o22 = o19.set (Int.toNat n5) [.int .i64 kk, .str a1, .str a2, .int .i64 k14, .ow 3 b5] := f0
  have k8 : (List.length o22 : Int) = List.length x := by rw [d0, List.length_set]; exact i4
  have l1 : o22[(Int.toNat n5)]? = some [.int .i64 kk, .str a1, .str a2, .int .i64 k14, .ow 3 b5] := by rw [d0]; exact set_self d9
  have i6 : o22 = ro.set (Int.toNat n5) [.int .i64 kk, .str a1, .str a2, .int .i64 k14, .ow 3 b5] := by rw [d0, g5, List.set_set]
  refine ops_doneB (tweak_backR (D := 46) (d := 1000000000) (i := (Int.toNat n5)) (j := 4) rfl rfl rfl d9 rfl (by decide) f0 rfl) ?_
  refine gB (ra hA 1 (by cbv) (ra hA 1 (by cbv) (ra hA 1 (by cbv) (oz ?_))))
  refine ⟨(S113_1 hv m21 (A.num .add .i64 n5 1) o22), List.length x - (i + 1), ?_, by cbv, i + 1, o22, (A.num .add .i64 n5 1), m21, rfl, ?_, rfl⟩
  ·
   exact hdec
  ·
   have hrow : ([.int .i64 kk, .str a1, .str a2, .int .i64 k14, .ow 3 b5] : List PV) = eoBox (meBox kk (⟨b6, a9, a4, a3, a7⟩ : GBox)) := by
    subst wk4 wk9 i7 i9 e8
    show _ = ([_, _, _, _, _] : List PV)
    exact congr (congrArg List.cons (congrArg (PV.int .i64) rfl)) (congr (congrArg List.cons (congrArg PV.str f1)) (congr (congrArg List.cons (congrArg PV.str e6)) (congr (congrArg List.cons (congrArg (PV.int .i64) rfl)) (congr (congrArg List.cons (congrArg (PV.ow 3) c9)) (rfl)))))
   refine ⟨b8, hi1, fin_k g8.2 hr5 hrce hkk cat, ?_⟩
   rw [i6, hrow, b1, hn5, mkBoxS_at k hyi, ← hkk]
   exact mark_set (hlen.symm.trans (Int.toNat_natCast i).symm)
 ·
  have ec1 : (A.rlen ro) ≤ n5 := lss_f hA c1
  refine go_exit ⟨fun _ => ?_, fun h => absurd rfl h⟩
  refine gs (gB (ra hA 2 (by cbv) (oz ?_)))
  refine go_ret ⟨⟨rfl, trivial⟩, Eq.trans (b := some [.ow 5 ro, .int .i64 k]) (by cbv) ?_, _, by cbv, ?_⟩
  ·
   rw [hro, List.take_of_length_le (by omega), List.drop_of_length_le (by omega), List.append_nil]
  ·
   show _ = (PV.int .i64 kk)
   refine congrArg (PV.int .i64) ?_
   rw [hkk, List.take_of_length_le (by omega)]
end Go.Av

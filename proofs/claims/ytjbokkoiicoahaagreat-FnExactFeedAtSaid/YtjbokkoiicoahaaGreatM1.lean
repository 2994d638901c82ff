/- Walks: marks. -/
import Derived.Test.YtjbokkoiicoahaaGreatTm
namespace Go.Av
open Go Go.Proofs
set_option maxRecDepth 100000
set_option maxHeartbeats 4000000
set_option linter.unusedVariables false
set_option linter.unusedSimpArgs false
theorem mb_eq {A : Alg} (hA : A = std) {a b : Int} (h : a = b) : A.cmp .eql (A.num .rem .i64 a 3) 0 = mb b := by subst hA; subst h; rfl
theorem add_one {A : Alg} (hA : A = std) {k r s t : Int} (p : 0 ≤ k) (q : k + r ≤ 1099511627776 ∧ k + r = t) (hr : r = 1 + s) (e : 0 ≤ s) : ∃ v : Int, v = k + 1 ∧ A.num .add .i64 k 1 = v ∧ 0 ≤ v ∧ v + s ≤ 1099511627776 ∧ v + s = t := ⟨k + 1, rfl, add_i64 hA (by omega) (by omega), by omega, by omega, by omega⟩
theorem add_cn {k v c r s t : Int} (hv : v = k + c) (p : 0 ≤ k) (q : k + r ≤ 1099511627776 ∧ k + r = t) (hr : r = c + s) (n : 0 ≤ c) : 0 ≤ v ∧ v + s ≤ 1099511627776 ∧ v + s = t := ⟨by omega, by omega, by omega⟩
theorem le_cn {k c r s t : Int} (q : k + r ≤ 1099511627776 ∧ k + r = t) (hr : r = c + s) (e : 0 ≤ s) : k + c ≤ 1099511627776 := by omega
theorem le_k {k r t : Int} (q : k + r ≤ 1099511627776 ∧ k + r = t) (e : 0 ≤ r) : k ≤ 1099511627776 := by omega
theorem nn_add {a b : Int} (h : 0 ≤ a) (g : 0 ≤ b) : 0 ≤ a + b := by omega
theorem fin_k {kn rn kk r0 k c c' ce : Int} (h : kn + rn ≤ 1099511627776 ∧ kn + rn = kk + r0) (hn : rn = 0) (h0 : r0 = ce) (hkk : kk = k + c) (cat : c' = c + ce) : kn = k + c' := by omega
theorem tdiv10 {k : Int} (h : 0 ≤ k) : k.tdiv 10 = k / 10 := Int.tdiv_eq_ediv_of_nonneg h
theorem quo_i64 {A : Alg} (hA : A = std) {k : Int} (h1 : 0 ≤ k) (h2 : k ≤ 1099511627776) : A.num .quo .i64 k 10 = k / 10 := by
 subst hA
 have h : IntKind.i64.wrap (k.tdiv 10) = k.tdiv 10 := by
  rw [tdiv10 h1]; exact wrap_id (by omega) (by omega)
 rw [← tdiv10 h1]; exact h
theorem dig_eq {A : Alg} (hA : A = std) (k : Int) : A.ofB [[.int .u8 (A.cnv .u8 (A.num .add .i64 48 (A.num .rem .i64 k 10)))]] = dig k := by subst hA; rfl
theorem dig_size (k : Int) : (dig k).size = 1 := by simp [dig, strOfNums_size]
theorem mtGo_pos {k : Int} (out : ByteArray) (h : 0 < k) : mtGo k out = mtGo (k / 10) (dig k ++ out) := by rw [mtGo, dif_pos h, tdiv10 (by omega)]
theorem mtGo_zero {k : Int} (out : ByteArray) (h : k ≤ 0) : mtGo k out = out := by rw [mtGo, dif_neg (by omega)]
def S71_1 (p0 : Int) (p1 : ByteArray) : St := { sl := [.int .i64 p0, .bad, .bad, .str p1, .bad, .bad, .bad, .bad, .bad, .bad, .bad, .bad, .bad, .bad, .bad, .bad, .bad, .bad, .bad, .bad], bl := [] }
theorem r_laws_markText (A : Alg) (hA : A = std) (k : Int) (h0 : 0 ≤ k) (h1 : k ≤ 1099511627776) : Real Tryz.prog 71 [.int .i64 k] (.str (mt k)) := by
 refine real_args (args' := [.int .i64 k]) (by rfl) ?_
 refine real tyOk Tryz.func71 (by kernel_rfl) (afun_of rfl ?_)
 refine gs (gr (ra hA 1 (by cbv) (od ?_)))
 refine gs (gs (gr (ra hA 2 (by cbv) (od ?_))))
 refine go_cond rfl (fun c1 => ?_) (fun c1 => ?_)
 ·
  have ec1 : k ≤ 0 := leq_t hA c1
  refine gs (gr (ra hA 1 (by cbv) (od ?_)))
  refine go_ret ⟨_, by cbv, ?_⟩
  show _ = (PV.str (ByteArray.mk #[109, 48]))
  refine congrArg PV.str ?_
  rw [mt, if_pos (by omega)]
 ·
  have ec1 : 0 < k := leq_f hA c1
  refine gk (gs (gr (ra hA 1 (by cbv) (od ?_))))
  refine gs ?_
  refine go_block ?_
  refine go_loopE (fun σ m => ∃ (kk : Int) (out : ByteArray), σ = (S71_1 kk out) ∧ (0 ≤ kk ∧ kk ≤ 1099511627776 ∧ (ByteArray.size out : Int) + kk ≤ 1099511627776 ∧ mtGo k (ByteArray.mk #[]) = mtGo kk out) ∧ m = Int.toNat kk) _ [] [0, 3] [] (S71_1 k (ByteArray.mk #[])) rfl (by cbv) ⟨k, (ByteArray.mk #[]), rfl, ?_, rfl⟩ (fun σ m hI => ?_)
  ·
   exact ⟨by omega, by omega, by show ((0 : Nat) : Int) + k ≤ _; omega, rfl⟩
  obtain ⟨kk, out, rfl, ⟨hk0, hk1, hs, hm⟩, rfl⟩ := hI
  refine gs (gs (gr (ra hA 2 (by cbv) (od ?_))))
  refine go_cond rfl (fun c2 => ?_) (fun c2 => ?_)
  ·
   have ec2 : 0 < kk := gtr_t hA c2
   refine gk ?_
   refine go_block ?_
   refine gs (gr (ra hA 7 (by cbv) ?_))
   obtain ⟨s3, hs3⟩ := nm ((A.ofB [[.int .u8 (A.cnv .u8 (A.num .add .i64 48 (A.num .rem .i64 kk 10)))]]) ++ out)
   have zs3 : ByteArray.size s3 = ByteArray.size (A.ofB [[.int .u8 (A.cnv .u8 (A.num .add .i64 48 (A.num .rem .i64 kk 10)))]]) + ByteArray.size out := by rw [hs3]; exact ByteArray.size_append
   have bs3 : ByteArray.size (A.ofB [[.int .u8 (A.cnv .u8 (A.num .add .i64 48 (A.num .rem .i64 kk 10)))]]) + ByteArray.size out ≤ 140737488355328 := by
    first
    | (rw [dig_eq hA, dig_size]; omega)
    | (show 1 + _ ≤ _; omega)
   refine ops_step rfl rfl (str_add rfl rfl rfl hs3 bs3) ?_
   refine ra hA 1 (by cbv) (od ?_)
   refine gr (ra hA 3 (by cbv) (od ?_))
   refine ⟨(S71_1 (A.num .quo .i64 kk 10) s3), Int.toNat (A.num .quo .i64 kk 10), ?_, by cbv, (A.num .quo .i64 kk 10), s3, rfl, ?_, rfl⟩
   ·
    rw [quo_i64 hA (by omega) (by omega)]; omega
   ·
    rw [quo_i64 hA (by omega) (by omega)]
    rw [dig_eq hA] at hs3 zs3
    rw [dig_size] at zs3
    exact ⟨by omega, by omega, by omega, by rw [hm, mtGo_pos _ (by omega), hs3]⟩
  ·
   have ec2 : kk ≤ 0 := gtr_f hA c2
   refine go_exit ⟨fun _ => ?_, fun h => absurd rfl h⟩
   refine gs (gr (ra hA 1 (by cbv) ?_))
   obtain ⟨s4, hs4⟩ := nm ((ByteArray.mk #[109]) ++ out)
   have zs4 : ByteArray.size s4 = ByteArray.size (ByteArray.mk #[109]) + ByteArray.size out := by rw [hs4]; exact ByteArray.size_append
   have bs4 : ByteArray.size (ByteArray.mk #[109]) + ByteArray.size out ≤ 140737488355328 := by
    first
    | (rw [dig_eq hA, dig_size]; omega)
    | (show 1 + _ ≤ _; omega)
   refine ops_step rfl rfl (str_add rfl rfl rfl hs4 bs4) ?_
   refine ra hA 1 (by cbv) (od ?_)
   refine go_ret ⟨_, by cbv, ?_⟩
   show _ = (PV.str s4)
   refine congrArg PV.str ?_
   rw [mt, if_neg (by omega), hs4]; rw [hm, mtGo_zero _ (by omega)]
def S72_1 (hv : Nat → Value) (p0 : Int) (p1 : Int) (p2 : RR) : St := { sl := [.own 1000000000, .int .i64 p0, .bad, .bad, .bad, .int .i64 p1, .bad, .bad, .bad, .bad, .bad, .bad, .bad, .bad, .bad, .bad, .bad, .bad, .bad, .bad], bl := [(1000000000, ⟨.arr, 1, p2⟩)], hd := [(1000000000, hv 1000000000)] }
theorem m_laws_markStringS (A : Alg) (hA : A = std) (x : List ByteArray) (k : Int) (h0 : 0 ≤ k) (h1 : k + cnStringS x ≤ 1099511627776) : RealM Tryz.prog 72 [.ow 1 (List.map eString x), .int .i64 k] [.ow 1 (List.map eString (mkStringS k x)), .int .i64 k] (.int .i64 (k + cnStringS x)) := by
 obtain ⟨x_r, b3⟩ := nm (x.map eString)
 have f8 := rlen_map hA b3
 refine realM_args (args1 := [.ow 1 x_r, .int .i64 k]) (by subst b3; rfl) rfl ?_
 have h2 : (List.length x : Int) ≤ 1099511627776 := by have := cnStringS_ge x; omega
 refine realM tyOk Tryz.func72 (by kernel_rfl) (afunM_of rfl (by cbv) (fun hv => ?_))
 refine gs (gB (ra hA 1 (by cbv) (oz ?_)))
 refine gs (gs (gB (ra hA 1 (by cbv) (oz ?_))))
 refine go_block ?_
 refine go_loopE (fun σ m => ∃ (i : Nat) (ro : RR) (n5 : Int) (kk : Int), σ = (S72_1 hv kk n5 ro) ∧ (n5 = (i : Int) ∧ i ≤ List.length x ∧ kk = k + cnStringS (x.take i) ∧ ro = List.map eString (mkStringS k (x.take i) ++ x.drop i)) ∧ m = List.length x - i) _ [] [0, 1, 5] [1000000000] (S72_1 hv k 0 x_r) rfl (by cbv) ⟨0, x_r, 0, k, rfl, ?_, rfl⟩ (fun σ m hI => ?_)
 ·
  exact ⟨rfl, Nat.zero_le _, by simp [cnStringS], b3⟩
 obtain ⟨i, ro, n5, kk, rfl, ⟨hn5, hi, hkk, hro⟩, rfl⟩ := hI
 have hlro : (List.length ro : Int) = List.length x := by
  rw [hro]; simp only [List.length_map, List.length_append, mkStringS_len, List.length_take, List.length_drop]; omega
 have lro : A.rlen ro = (List.length x : Int) := by
  rw [rlen_map hA hro]; simp only [List.length_append, mkStringS_len, List.length_take, List.length_drop]; omega
 refine gs (gs (gB (ra hA 4 (by cbv) (oz ?_))))
 refine go_cond rfl (fun c1 => ?_) (fun c1 => ?_)
 ·
  have ec1 : n5 < (A.rlen ro) := lss_t hA c1
  refine gk (gs ?_)
  refine go_block ?_
  refine gs ?_
  have h05 : (0 : Int) ≤ n5 := by omega
  have hlt : Int.toNat n5 < List.length x := by omega
  obtain ⟨y, hy⟩ : ∃ y, x[Int.toNat n5]? = some y := ⟨_, List.getElem?_eq_getElem hlt⟩
  have hyi : x[i]? = some y := by have h := hy; rw [hn5] at h; exact h
  have cat := cnStringS_at hyi
  have cle := cnStringS_le x (i + 1)
  have cnn := cnStringS_nn (x.take i)
  have cce : ceString y = 1 := rfl
  have b7 : ro = List.map eString (mkStringS k (x.take i) ++ y :: x.drop (i + 1)) := by
   rw [hro, ← drop_at hyi]
  have c3 : ro[Int.toNat n5]? = some (eString y) := by
   rw [b7, hn5]; exact mark_get (by rw [mkStringS_len, List.length_take]; omega)
  have hzro : ro[Int.toNat n5]? = some [.str y] := by exact c3
  obtain ⟨r1, hr1, e1⟩ : ∃ r : Int, r = 0 ∧ 0 ≤ r := ⟨0, rfl, by decide⟩
  obtain ⟨r0, hr0, e0⟩ : ∃ r : Int, r = 1 + r1 ∧ 0 ≤ r := ⟨_, rfl, nn_add (by decide) e1⟩
  have p0 : 0 ≤ kk := by clear hr1 e1 hr0 e0; omega
  have hrce : r0 = ceString y := by subst hr1 hr0; rw [cce]; omega
  have q0 : kk + r0 ≤ 1099511627776 ∧ kk + r0 = kk + r0 := ⟨by clear hr1 e1 hr0 e0; omega, rfl⟩
  have b1 : n5 < (List.length x : Int) := by clear hr1 e1 hr0 e0; omega
  have hi1 : i + 1 ≤ List.length x := by clear hr1 e1 hr0 e0; omega
  have d0 : A.num .add .i64 n5 1 = ((i + 1 : Nat) : Int) := by
   clear hr1 e1 hr0 e0; rw [add_i64 hA (by omega) (by omega)]; omega
  have hlen : i = List.length (mkStringS k (x.take i)) := by rw [mkStringS_len, List.length_take]; clear hr1 e1 hr0 e0; omega
  have hdec : List.length x - (i + 1) < List.length x - i := by clear hr1 e1 hr0 e0; omega
  refine gB (ra hA 3 (by cbv) ?_)
  obtain ⟨d6, p4, hc3⟩ : ∃ (d6 : ByteArray), d6 = (mt kk) ∧ Real Tryz.prog 71 [.int .i64 kk] (.str d6) := ⟨_, rfl, by exact r_laws_markText A hA kk p0 (le_k q0 e0)⟩
  refine ops_callV rfl rfl (by cbv) (by cbv) hc3 (.inr rfl) (by cbv) ?_
  have v0 : n5 < (List.length ro : Int) := by rw [hlro]; exact b1
  refine ops_step rfl rfl (idx_own rfl rfl rfl rfl rfl rfl h05 v0 rfl) ?_
  obtain ⟨o5, ho5⟩ := nm (ro.set (Int.toNat n5) [.str d6])
  have go5 : o5 = ro.set (Int.toNat n5) [.str d6] := ho5
  have y2 : (List.length o5 : Int) = List.length x := by rw [go5, List.length_set]; exact hlro
  have y0 : o5[(Int.toNat n5)]? = some [.str d6] := by rw [go5]; exact set_self hzro
  have w4 : o5 = ro.set (Int.toNat n5) [.str d6] := go5
  refine ops_step rfl rfl (sto_arr (r := [.str y]) (cs := [.str d6]) rfl rfl rfl rfl rfl ⟨_, _, rfl⟩ rfl rfl hzro rfl ho5) ?_
  refine oz ?_
  refine gB (ra hA 1 (by cbv) ?_)
  obtain ⟨k6, wk6, w5, pk6, qk6⟩ := add_one hA p0 q0 hr0 e1
  refine ops_step rfl rfl (int_add hA rfl rfl rfl w5) ?_
  refine ra hA 1 (by cbv) (oz ?_)
  refine gB (ra hA 1 (by cbv) (ra hA 1 (by cbv) (ra hA 1 (by cbv) (oz ?_))))
  refine ⟨(S72_1 hv k6 (A.num .add .i64 n5 1) o5), List.length x - (i + 1), ?_, by cbv, i + 1, o5, (A.num .add .i64 n5 1), k6, rfl, ?_, rfl⟩
  ·
   exact hdec
  ·
   have hrow : ([.str d6] : List PV) = eString (meString kk y) := by
    subst wk6
    show _ = ([_] : List PV)
    exact congr (congrArg List.cons (congrArg PV.str p4)) (rfl)
   refine ⟨d0, hi1, fin_k qk6 hr1 hrce hkk cat, ?_⟩
   rw [w4, hrow, b7, hn5, mkStringS_at k hyi, ← hkk]
   exact mark_set (hlen.symm.trans (Int.toNat_natCast i).symm)
 ·
  have ec1 : (A.rlen ro) ≤ n5 := lss_f hA c1
  refine go_exit ⟨fun _ => ?_, fun h => absurd rfl h⟩
  refine gs (gB (ra hA 2 (by cbv) (oz ?_)))
  refine go_ret ⟨⟨rfl, trivial⟩, Eq.trans (b := some [.ow 1 ro, .int .i64 k]) (by cbv) ?_, _, by cbv, ?_⟩
  ·
   rw [hro, List.take_of_length_le (by omega), List.drop_of_length_le (by omega), List.append_nil]
  ·
   show _ = (PV.int .i64 kk)
   refine congrArg (PV.int .i64) ?_
   rw [hkk, List.take_of_length_le (by omega)]
def S70_1 (hv : Nat → Value) (p0 : Int) (p1 : Int) (p2 : RR) : St := { sl := [.own 1000000000, .int .i64 p0, .bad, .bad, .bad, .int .i64 p1, .bad, .bad, .bad, .bad, .bad, .bad, .bad, .bad, .bad, .bad, .bad, .bad, .bad], bl := [(1000000000, ⟨.arr, 1, p2⟩)], hd := [(1000000000, hv 1000000000)] }
theorem m_laws_markIntS (A : Alg) (hA : A = std) (x : List Int) (k : Int) (h0 : 0 ≤ k) (h1 : k + cnIntS x ≤ 1099511627776) : RealM Tryz.prog 70 [.ow 1 (List.map eInt x), .int .i64 k] [.ow 1 (List.map eInt (mkIntS k x)), .int .i64 k] (.int .i64 (k + cnIntS x)) := by
 obtain ⟨x_r, b3⟩ := nm (x.map eInt)
 have f8 := rlen_map hA b3
 refine realM_args (args1 := [.ow 1 x_r, .int .i64 k]) (by subst b3; rfl) rfl ?_
 have h2 : (List.length x : Int) ≤ 1099511627776 := by have := cnIntS_ge x; omega
 refine realM tyOk Tryz.func70 (by kernel_rfl) (afunM_of rfl (by cbv) (fun hv => ?_))
 refine gs (gB (ra hA 1 (by cbv) (oz ?_)))
 refine gs (gs (gB (ra hA 1 (by cbv) (oz ?_))))
 refine go_block ?_
 refine go_loopE (fun σ m => ∃ (i : Nat) (ro : RR) (n5 : Int) (kk : Int), σ = (S70_1 hv kk n5 ro) ∧ (n5 = (i : Int) ∧ i ≤ List.length x ∧ kk = k + cnIntS (x.take i) ∧ ro = List.map eInt (mkIntS k (x.take i) ++ x.drop i)) ∧ m = List.length x - i) _ [] [0, 1, 5] [1000000000] (S70_1 hv k 0 x_r) rfl (by cbv) ⟨0, x_r, 0, k, rfl, ?_, rfl⟩ (fun σ m hI => ?_)
 ·
  exact ⟨rfl, Nat.zero_le _, by simp [cnIntS], b3⟩
 obtain ⟨i, ro, n5, kk, rfl, ⟨hn5, hi, hkk, hro⟩, rfl⟩ := hI
 have hlro : (List.length ro : Int) = List.length x := by
  rw [hro]; simp only [List.length_map, List.length_append, mkIntS_len, List.length_take, List.length_drop]; omega
 have lro : A.rlen ro = (List.length x : Int) := by
  rw [rlen_map hA hro]; simp only [List.length_append, mkIntS_len, List.length_take, List.length_drop]; omega
 refine gs (gs (gB (ra hA 4 (by cbv) (oz ?_))))
 refine go_cond rfl (fun c1 => ?_) (fun c1 => ?_)
 ·
  have ec1 : n5 < (A.rlen ro) := lss_t hA c1
  refine gk (gs ?_)
  refine go_block ?_
  refine gs ?_
  have h05 : (0 : Int) ≤ n5 := by omega
  have hlt : Int.toNat n5 < List.length x := by omega
  obtain ⟨y, hy⟩ : ∃ y, x[Int.toNat n5]? = some y := ⟨_, List.getElem?_eq_getElem hlt⟩
  have hyi : x[i]? = some y := by have h := hy; rw [hn5] at h; exact h
  have cat := cnIntS_at hyi
  have cle := cnIntS_le x (i + 1)
  have cnn := cnIntS_nn (x.take i)
  have cce : ceInt y = 1 := rfl
  have b7 : ro = List.map eInt (mkIntS k (x.take i) ++ y :: x.drop (i + 1)) := by
   rw [hro, ← drop_at hyi]
  have c3 : ro[Int.toNat n5]? = some (eInt y) := by
   rw [b7, hn5]; exact mark_get (by rw [mkIntS_len, List.length_take]; omega)
  have hzro : ro[Int.toNat n5]? = some [.int .i64 y] := by exact c3
  obtain ⟨r1, hr1, e1⟩ : ∃ r : Int, r = 0 ∧ 0 ≤ r := ⟨0, rfl, by decide⟩
  obtain ⟨r0, hr0, e0⟩ : ∃ r : Int, r = 1 + r1 ∧ 0 ≤ r := ⟨_, rfl, nn_add (by decide) e1⟩
  have p0 : 0 ≤ kk := by clear hr1 e1 hr0 e0; omega
  have hrce : r0 = ceInt y := by subst hr1 hr0; rw [cce]; omega
  have q0 : kk + r0 ≤ 1099511627776 ∧ kk + r0 = kk + r0 := ⟨by clear hr1 e1 hr0 e0; omega, rfl⟩
  have b1 : n5 < (List.length x : Int) := by clear hr1 e1 hr0 e0; omega
  have hi1 : i + 1 ≤ List.length x := by clear hr1 e1 hr0 e0; omega
  have d0 : A.num .add .i64 n5 1 = ((i + 1 : Nat) : Int) := by
   clear hr1 e1 hr0 e0; rw [add_i64 hA (by omega) (by omega)]; omega
  have hlen : i = List.length (mkIntS k (x.take i)) := by rw [mkIntS_len, List.length_take]; clear hr1 e1 hr0 e0; omega
  have hdec : List.length x - (i + 1) < List.length x - i := by clear hr1 e1 hr0 e0; omega
  refine gB (ra hA 3 (by cbv) ?_)
  have d3 : n5 < (List.length ro : Int) := by rw [hlro]; exact b1
  refine ops_step rfl rfl (idx_own rfl rfl rfl rfl rfl rfl h05 d3 rfl) ?_
  obtain ⟨o3, ho3⟩ := nm (ro.set (Int.toNat n5) [.int .i64 kk])
  have go3 : o3 = ro.set (Int.toNat n5) [.int .i64 kk] := ho3
  have c7 : (List.length o3 : Int) = List.length x := by rw [go3, List.length_set]; exact hlro
  have c8 : o3[(Int.toNat n5)]? = some [.int .i64 kk] := by rw [go3]; exact set_self hzro
  have d2 : o3 = ro.set (Int.toNat n5) [.int .i64 kk] := go3
  refine ops_step rfl rfl (sto_arr (r := [.int .i64 y]) (cs := [.int .i64 kk]) rfl rfl rfl rfl rfl ⟨_, _, rfl⟩ rfl rfl hzro rfl ho3) ?_
  refine oz ?_
  refine gB (ra hA 1 (by cbv) ?_)
  obtain ⟨k4, wk4, d4, pk4, qk4⟩ := add_one hA p0 q0 hr0 e1
  refine ops_step rfl rfl (int_add hA rfl rfl rfl d4) ?_
  refine ra hA 1 (by cbv) (oz ?_)
  refine gB (ra hA 1 (by cbv) (ra hA 1 (by cbv) (ra hA 1 (by cbv) (oz ?_))))
  refine ⟨(S70_1 hv k4 (A.num .add .i64 n5 1) o3), List.length x - (i + 1), ?_, by cbv, i + 1, o3, (A.num .add .i64 n5 1), k4, rfl, ?_, rfl⟩
  ·
   exact hdec
  ·
   have hrow : ([.int .i64 kk] : List PV) = eInt (meInt kk y) := by
    subst wk4
    show _ = ([_] : List PV)
    exact congr (congrArg List.cons (congrArg (PV.int .i64) rfl)) (rfl)
   refine ⟨d0, hi1, fin_k qk4 hr1 hrce hkk cat, ?_⟩
   rw [d2, hrow, b7, hn5, mkIntS_at k hyi, ← hkk]
   exact mark_set (hlen.symm.trans (Int.toNat_natCast i).symm)
 ·
  have ec1 : (A.rlen ro) ≤ n5 := lss_f hA c1
  refine go_exit ⟨fun _ => ?_, fun h => absurd rfl h⟩
  refine gs (gB (ra hA 2 (by cbv) (oz ?_)))
  refine go_ret ⟨⟨rfl, trivial⟩, Eq.trans (b := some [.ow 1 ro, .int .i64 k]) (by cbv) ?_, _, by cbv, ?_⟩
  ·
   rw [hro, List.take_of_length_le (by omega), List.drop_of_length_le (by omega), List.append_nil]
  ·
   show _ = (PV.int .i64 kk)
   refine congrArg (PV.int .i64) ?_
   rw [hkk, List.take_of_length_le (by omega)]
def S74_1 (hv : Nat → Value) (p0 : Int) (p1 : Int) (p2 : RR) : St := { sl := [.own 1000000000, .int .i64 p0, .bad, .bad, .bad, .int .i64 p1, .bad, .bad, .bad, .bad, .bad, .bad, .bad, .bad, .bad, .bad, .bad, .bad, .bad, .bad, .bad], bl := [(1000000000, ⟨.arr, 1, p2⟩)], hd := [(1000000000, hv 1000000000)] }
theorem m_laws_markBoolS (A : Alg) (hA : A = std) (x : List Bool) (k : Int) (h0 : 0 ≤ k) (h1 : k + cnBoolS x ≤ 1099511627776) : RealM Tryz.prog 74 [.ow 1 (List.map eBool x), .int .i64 k] [.ow 1 (List.map eBool (mkBoolS k x)), .int .i64 k] (.int .i64 (k + cnBoolS x)) := by
 obtain ⟨x_r, b3⟩ := nm (x.map eBool)
 have f8 := rlen_map hA b3
 refine realM_args (args1 := [.ow 1 x_r, .int .i64 k]) (by subst b3; rfl) rfl ?_
 have h2 : (List.length x : Int) ≤ 1099511627776 := by have := cnBoolS_ge x; omega
 refine realM tyOk Tryz.func74 (by kernel_rfl) (afunM_of rfl (by cbv) (fun hv => ?_))
 refine gs (gB (ra hA 1 (by cbv) (oz ?_)))
 refine gs (gs (gB (ra hA 1 (by cbv) (oz ?_))))
 refine go_block ?_
 refine go_loopE (fun σ m => ∃ (i : Nat) (ro : RR) (n5 : Int) (kk : Int), σ = (S74_1 hv kk n5 ro) ∧ (n5 = (i : Int) ∧ i ≤ List.length x ∧ kk = k + cnBoolS (x.take i) ∧ ro = List.map eBool (mkBoolS k (x.take i) ++ x.drop i)) ∧ m = List.length x - i) _ [] [0, 1, 5] [1000000000] (S74_1 hv k 0 x_r) rfl (by cbv) ⟨0, x_r, 0, k, rfl, ?_, rfl⟩ (fun σ m hI => ?_)
 ·
  exact ⟨rfl, Nat.zero_le _, by simp [cnBoolS], b3⟩
 obtain ⟨i, ro, n5, kk, rfl, ⟨hn5, hi, hkk, hro⟩, rfl⟩ := hI
 have hlro : (List.length ro : Int) = List.length x := by
  rw [hro]; simp only [List.length_map, List.length_append, mkBoolS_len, List.length_take, List.length_drop]; omega
 have lro : A.rlen ro = (List.length x : Int) := by
  rw [rlen_map hA hro]; simp only [List.length_append, mkBoolS_len, List.length_take, List.length_drop]; omega
 refine gs (gs (gB (ra hA 4 (by cbv) (oz ?_))))
 refine go_cond rfl (fun c1 => ?_) (fun c1 => ?_)
 ·
  have ec1 : n5 < (A.rlen ro) := lss_t hA c1
  refine gk (gs ?_)
  refine go_block ?_
  refine gs ?_
  have h05 : (0 : Int) ≤ n5 := by omega
  have hlt : Int.toNat n5 < List.length x := by omega
  obtain ⟨y, hy⟩ : ∃ y, x[Int.toNat n5]? = some y := ⟨_, List.getElem?_eq_getElem hlt⟩
  have hyi : x[i]? = some y := by have h := hy; rw [hn5] at h; exact h
  have cat := cnBoolS_at hyi
  have cle := cnBoolS_le x (i + 1)
  have cnn := cnBoolS_nn (x.take i)
  have cce : ceBool y = 1 := rfl
  have b7 : ro = List.map eBool (mkBoolS k (x.take i) ++ y :: x.drop (i + 1)) := by
   rw [hro, ← drop_at hyi]
  have c3 : ro[Int.toNat n5]? = some (eBool y) := by
   rw [b7, hn5]; exact mark_get (by rw [mkBoolS_len, List.length_take]; omega)
  have hzro : ro[Int.toNat n5]? = some [.bool y] := by exact c3
  obtain ⟨r1, hr1, e1⟩ : ∃ r : Int, r = 0 ∧ 0 ≤ r := ⟨0, rfl, by decide⟩
  obtain ⟨r0, hr0, e0⟩ : ∃ r : Int, r = 1 + r1 ∧ 0 ≤ r := ⟨_, rfl, nn_add (by decide) e1⟩
  have p0 : 0 ≤ kk := by clear hr1 e1 hr0 e0; omega
  have hrce : r0 = ceBool y := by subst hr1 hr0; rw [cce]; omega
  have q0 : kk + r0 ≤ 1099511627776 ∧ kk + r0 = kk + r0 := ⟨by clear hr1 e1 hr0 e0; omega, rfl⟩
  have b1 : n5 < (List.length x : Int) := by clear hr1 e1 hr0 e0; omega
  have hi1 : i + 1 ≤ List.length x := by clear hr1 e1 hr0 e0; omega
  have d0 : A.num .add .i64 n5 1 = ((i + 1 : Nat) : Int) := by
   clear hr1 e1 hr0 e0; rw [add_i64 hA (by omega) (by omega)]; omega
  have hlen : i = List.length (mkBoolS k (x.take i)) := by rw [mkBoolS_len, List.length_take]; clear hr1 e1 hr0 e0; omega
  have hdec : List.length x - (i + 1) < List.length x - i := by clear hr1 e1 hr0 e0; omega
  refine gB (ra hA 5 (by cbv) ?_)
  have d3 : n5 < (List.length ro : Int) := by rw [hlro]; exact b1
  refine ops_step rfl rfl (idx_own rfl rfl rfl rfl rfl rfl h05 d3 rfl) ?_
  obtain ⟨o3, ho3⟩ := nm (ro.set (Int.toNat n5) [.bool (A.cmp .eql (A.num .rem .i64 kk 3) 0)])
  have go3 : o3 = ro.set (Int.toNat n5) [.bool (A.cmp .eql (A.num .rem .i64 kk 3) 0)] := ho3
  have c7 : (List.length o3 : Int) = List.length x := by rw [go3, List.length_set]; exact hlro
  have c8 : o3[(Int.toNat n5)]? = some [.bool (A.cmp .eql (A.num .rem .i64 kk 3) 0)] := by rw [go3]; exact set_self hzro
  have d2 : o3 = ro.set (Int.toNat n5) [.bool (A.cmp .eql (A.num .rem .i64 kk 3) 0)] := go3
  refine ops_step rfl rfl (sto_arr (r := [.bool y]) (cs := [.bool (A.cmp .eql (A.num .rem .i64 kk 3) 0)]) rfl rfl rfl rfl rfl ⟨_, _, rfl⟩ rfl rfl hzro rfl ho3) ?_
  refine oz ?_
  refine gB (ra hA 1 (by cbv) ?_)
  obtain ⟨k4, wk4, d4, pk4, qk4⟩ := add_one hA p0 q0 hr0 e1
  refine ops_step rfl rfl (int_add hA rfl rfl rfl d4) ?_
  refine ra hA 1 (by cbv) (oz ?_)
  refine gB (ra hA 1 (by cbv) (ra hA 1 (by cbv) (ra hA 1 (by cbv) (oz ?_))))
  refine ⟨(S74_1 hv k4 (A.num .add .i64 n5 1) o3), List.length x - (i + 1), ?_, by cbv, i + 1, o3, (A.num .add .i64 n5 1), k4, rfl, ?_, rfl⟩
  ·
   exact hdec
  ·
   have hrow : ([.bool (A.cmp .eql (A.num .rem .i64 kk 3) 0)] : List PV) = eBool (meBool kk y) := by
    subst wk4
    show _ = ([_] : List PV)
    exact congr (congrArg List.cons (congrArg PV.bool (mb_eq hA rfl))) (rfl)
   refine ⟨d0, hi1, fin_k qk4 hr1 hrce hkk cat, ?_⟩
   rw [d2, hrow, b7, hn5, mkBoolS_at k hyi, ← hkk]
   exact mark_set (hlen.symm.trans (Int.toNat_natCast i).symm)
 ·
  have ec1 : (A.rlen ro) ≤ n5 := lss_f hA c1
  refine go_exit ⟨fun _ => ?_, fun h => absurd rfl h⟩
  refine gs (gB (ra hA 2 (by cbv) (oz ?_)))
  refine go_ret ⟨⟨rfl, trivial⟩, Eq.trans (b := some [.ow 1 ro, .int .i64 k]) (by cbv) ?_, _, by cbv, ?_⟩
  ·
   rw [hro, List.take_of_length_le (by omega), List.drop_of_length_le (by omega), List.append_nil]
  ·
   show _ = (PV.int .i64 kk)
   refine congrArg (PV.int .i64) ?_
   rw [hkk, List.take_of_length_le (by omega)]
def S157_1 (hv : Nat → Value) (p0 : Int) (p1 : Int) (p2 : RR) : St := { sl := [.own 1000000000, .int .i64 p0, .bad, .bad, .bad, .int .i64 p1, .bad, .bad, .bad, .bad, .bad, .bad, .bad, .bad, .bad, .bad, .bad, .bad, .bad, .bad, .bad, .bad, .bad, .bad, .bad, .bad, .bad, .bad], bl := [(1000000000, ⟨.arr, 2, p2⟩)], hd := [(1000000000, hv 1000000000)] }
theorem m_laws_markWriteS (A : Alg) (hA : A = std) (x : List GWrite) (k : Int) (h0 : 0 ≤ k) (h1 : k + cnWriteS x ≤ 1099511627776) : RealM Tryz.prog 157 [.ow 2 (List.map eoWrite x), .int .i64 k] [.ow 2 (List.map eoWrite (mkWriteS k x)), .int .i64 k] (.int .i64 (k + cnWriteS x)) := by
 obtain ⟨x_r, b3⟩ := nm (x.map eoWrite)
 have f8 := rlen_map hA b3
 refine realM_args (args1 := [.ow 2 x_r, .int .i64 k]) (by subst b3; rfl) rfl ?_
 have h2 : (List.length x : Int) ≤ 1099511627776 := by have := cnWriteS_ge x; omega
 refine realM tyOk Tryz.func157 (by kernel_rfl) (afunM_of rfl (by cbv) (fun hv => ?_))
 refine gs (gB (ra hA 1 (by cbv) (oz ?_)))
 refine gs (gs (gB (ra hA 1 (by cbv) (oz ?_))))
 refine go_block ?_
 refine go_loopE (fun σ m => ∃ (i : Nat) (ro : RR) (n5 : Int) (kk : Int), σ = (S157_1 hv kk n5 ro) ∧ (n5 = (i : Int) ∧ i ≤ List.length x ∧ kk = k + cnWriteS (x.take i) ∧ ro = List.map eoWrite (mkWriteS k (x.take i) ++ x.drop i)) ∧ m = List.length x - i) _ [] [0, 1, 5] [1000000000] (S157_1 hv k 0 x_r) rfl (by cbv) ⟨0, x_r, 0, k, rfl, ?_, rfl⟩ (fun σ m hI => ?_)
 ·
  exact ⟨rfl, Nat.zero_le _, by simp [cnWriteS], b3⟩
 obtain ⟨i, ro, n5, kk, rfl, ⟨hn5, hi, hkk, hro⟩, rfl⟩ := hI
 have hlro : (List.length ro : Int) = List.length x := by
  rw [hro]; simp only [List.length_map, List.length_append, mkWriteS_len, List.length_take, List.length_drop]; omega
 have lro : A.rlen ro = (List.length x : Int) := by
  rw [rlen_map hA hro]; simp only [List.length_append, mkWriteS_len, List.length_take, List.length_drop]; omega
 refine gs (gs (gB (ra hA 4 (by cbv) (oz ?_))))
 refine go_cond rfl (fun c1 => ?_) (fun c1 => ?_)
 ·
  have ec1 : n5 < (A.rlen ro) := lss_t hA c1
  refine gk (gs ?_)
  refine go_block ?_
  refine gs ?_
  have h05 : (0 : Int) ≤ n5 := by omega
  have hlt : Int.toNat n5 < List.length x := by omega
  obtain ⟨y, hy⟩ : ∃ y, x[Int.toNat n5]? = some y := ⟨_, List.getElem?_eq_getElem hlt⟩
  have hyi : x[i]? = some y := by have h := hy; rw [hn5] at h; exact h
  have cat := cnWriteS_at hyi
  have cle := cnWriteS_le x (i + 1)
  have cnn := cnWriteS_nn (x.take i)
  have cce : ceWrite y = _ := rfl
  have b7 : ro = List.map eoWrite (mkWriteS k (x.take i) ++ y :: x.drop (i + 1)) := by
   rw [hro, ← drop_at hyi]
  have c3 : ro[Int.toNat n5]? = some (eoWrite y) := by
   rw [b7, hn5]; exact mark_get (by rw [mkWriteS_len, List.length_take]; omega)
  obtain ⟨g8, a9⟩ := y
  have hzro : ro[Int.toNat n5]? = some [.int .i64 g8, .str a9] := by exact c3
  have cce : ceWrite (⟨g8, a9⟩ : GWrite) = 1 + 1 := rfl
  obtain ⟨r2, hr2, e2⟩ : ∃ r : Int, r = 0 ∧ 0 ≤ r := ⟨0, rfl, by decide⟩
  obtain ⟨r1, hr1, e1⟩ : ∃ r : Int, r = 1 + r2 ∧ 0 ≤ r := ⟨_, rfl, nn_add (by decide) e2⟩
  obtain ⟨r0, hr0, e0⟩ : ∃ r : Int, r = 1 + r1 ∧ 0 ≤ r := ⟨_, rfl, nn_add (by decide) e1⟩
  have p0 : 0 ≤ kk := by clear hr2 e2 hr1 e1 hr0 e0; omega
  have hrce : r0 = ceWrite (⟨g8, a9⟩ : GWrite) := by subst hr2 hr1 hr0; rw [cce]; omega
  have q0 : kk + r0 ≤ 1099511627776 ∧ kk + r0 = kk + r0 := ⟨by clear hr2 e2 hr1 e1 hr0 e0; omega, rfl⟩
  have b1 : n5 < (List.length x : Int) := by clear hr2 e2 hr1 e1 hr0 e0; omega
  have hi1 : i + 1 ≤ List.length x := by clear hr2 e2 hr1 e1 hr0 e0; omega
  have d0 : A.num .add .i64 n5 1 = ((i + 1 : Nat) : Int) := by
   clear hr2 e2 hr1 e1 hr0 e0; rw [add_i64 hA (by omega) (by omega)]; omega
  have hlen : i = List.length (mkWriteS k (x.take i)) := by rw [mkWriteS_len, List.length_take]; clear hr2 e2 hr1 e1 hr0 e0; omega
  have hdec : List.length x - (i + 1) < List.length x - i := by clear hr2 e2 hr1 e1 hr0 e0; omega
  refine gB (ra hA 3 (by cbv) ?_)
  have d3 : n5 < (List.length ro : Int) := by rw [hlro]; exact b1
  refine ops_step rfl rfl (idx_own rfl rfl rfl rfl rfl rfl h05 d3 rfl) ?_
  refine ra hA 1 (by cbv) ?_
  obtain ⟨o3, ho3⟩ := nm (ro.set (Int.toNat n5) [.int .i64 kk, .str a9])
  have go3 : o3 = ro.set (Int.toNat n5) [.int .i64 kk, .str a9] := ho3
  have c7 : (List.length o3 : Int) = List.length x := by rw [go3, List.length_set]; exact hlro
  have c8 : o3[(Int.toNat n5)]? = some [.int .i64 kk, .str a9] := by rw [go3]; exact set_self hzro
  have d2 : o3 = ro.set (Int.toNat n5) [.int .i64 kk, .str a9] := go3
  refine ops_step rfl rfl (sto_arr (r := [.int .i64 g8, .str a9]) (cs := [.int .i64 kk]) rfl rfl rfl rfl rfl ⟨_, _, rfl⟩ rfl rfl hzro rfl ho3) ?_
  refine oz ?_
  refine gs (gB (ra hA 1 (by cbv) ?_))
  obtain ⟨k4, wk4, d4, pk4, qk4⟩ := add_one hA p0 q0 hr0 e1
  refine ops_step rfl rfl (int_add hA rfl rfl rfl d4) ?_
  refine ra hA 1 (by cbv) (oz ?_)
  refine gs (gB (ra hA 3 (by cbv) ?_))
  obtain ⟨a7, g7, hc6⟩ : ∃ (a7 : ByteArray), a7 = (mt k4) ∧ Real Tryz.prog 71 [.int .i64 k4] (.str a7) := ⟨_, rfl, by exact r_laws_markText A hA k4 pk4 (le_k qk4 e1)⟩
  refine ops_callV rfl rfl (by cbv) (by cbv) hc6 (.inr rfl) (by cbv) ?_
  have l2 : n5 < (List.length o3 : Int) := by rw [c7]; exact b1
  refine ops_step rfl rfl (idx_own rfl rfl rfl rfl rfl rfl h05 l2 rfl) ?_
  refine ra hA 1 (by cbv) ?_
  obtain ⟨o8, ho8⟩ := nm (o3.set (Int.toNat n5) [.int .i64 kk, .str a7])
  have go8 : o8 = o3.set (Int.toNat n5) [.int .i64 kk, .str a7] := ho8
  have k5 : (List.length o8 : Int) = List.length x := by rw [go8, List.length_set]; exact c7
  have j8 : o8[(Int.toNat n5)]? = some [.int .i64 kk, .str a7] := by rw [go8]; exact set_self c8
  have j7 : o8 = ro.set (Int.toNat n5) [.int .i64 kk, .str a7] := by rw [go8, d2, List.set_set]
  refine ops_step rfl rfl (sto_arr (r := [.int .i64 kk, .str a9]) (cs := [.str a7]) rfl rfl rfl rfl rfl ⟨_, _, rfl⟩ rfl rfl c8 rfl ho8) ?_
  refine oz ?_
  refine gB (ra hA 1 (by cbv) ?_)
  obtain ⟨k9, wk9, k1, pk9, qk9⟩ := add_one hA pk4 qk4 hr1 e2
  refine ops_step rfl rfl (int_add hA rfl rfl rfl k1) ?_
  refine ra hA 1 (by cbv) (oz ?_)
  refine gB (ra hA 1 (by cbv) (ra hA 1 (by cbv) (ra hA 1 (by cbv) (oz ?_))))
  refine ⟨(S157_1 hv k9 (A.num .add .i64 n5 1) o8), List.length x - (i + 1), ?_, by cbv, i + 1, o8, (A.num .add .i64 n5 1), k9, rfl, ?_, rfl⟩
  ·
   exact hdec
  ·
   have hrow : ([.int .i64 kk, .str a7] : List PV) = eoWrite (meWrite kk (⟨g8, a9⟩ : GWrite)) := by
    subst wk4 wk9
    show _ = ([_, _] : List PV)
    exact congr (congrArg List.cons (congrArg (PV.int .i64) rfl)) (congr (congrArg List.cons (congrArg PV.str g7)) (rfl))
   refine ⟨d0, hi1, fin_k qk9 hr2 hrce hkk cat, ?_⟩
   rw [j7, hrow, b7, hn5, mkWriteS_at k hyi, ← hkk]
   exact mark_set (hlen.symm.trans (Int.toNat_natCast i).symm)
 ·
  have ec1 : (A.rlen ro) ≤ n5 := lss_f hA c1
  refine go_exit ⟨fun _ => ?_, fun h => absurd rfl h⟩
  refine gs (gB (ra hA 2 (by cbv) (oz ?_)))
  refine go_ret ⟨⟨rfl, trivial⟩, Eq.trans (b := some [.ow 2 ro, .int .i64 k]) (by cbv) ?_, _, by cbv, ?_⟩
  ·
   rw [hro, List.take_of_length_le (by omega), List.drop_of_length_le (by omega), List.append_nil]
  ·
   show _ = (PV.int .i64 kk)
   refine congrArg (PV.int .i64) ?_
   rw [hkk, List.take_of_length_le (by omega)]
def S73_1 (hv : Nat → Value) (p0 : Int) (p1 : Int) (p2 : RR) : St := { sl := [.own 1000000000, .int .i64 p0, .bad, .bad, .bad, .int .i64 p1, .bad, .bad, .bad, .bad, .bad, .bad, .bad, .bad, .bad, .bad, .bad, .bad, .bad, .bad, .bad, .bad, .bad, .bad, .bad, .bad, .bad, .bad, .bad, .bad, .bad, .bad, .bad, .bad, .bad], bl := [(1000000000, ⟨.arr, 3, p2⟩)], hd := [(1000000000, hv 1000000000)] }
theorem m_laws_markMailS (A : Alg) (hA : A = std) (x : List GMail) (k : Int) (h0 : 0 ≤ k) (h1 : k + cnMailS x ≤ 1099511627776) : RealM Tryz.prog 73 [.ow 3 (List.map eoMail x), .int .i64 k] [.ow 3 (List.map eoMail (mkMailS k x)), .int .i64 k] (.int .i64 (k + cnMailS x)) := by
 obtain ⟨x_r, b3⟩ := nm (x.map eoMail)
 have f8 := rlen_map hA b3
 refine realM_args (args1 := [.ow 3 x_r, .int .i64 k]) (by subst b3; rfl) rfl ?_
 have h2 : (List.length x : Int) ≤ 1099511627776 := by have := cnMailS_ge x; omega
 refine realM tyOk Tryz.func73 (by kernel_rfl) (afunM_of rfl (by cbv) (fun hv => ?_))
 refine gs (gB (ra hA 1 (by cbv) (oz ?_)))
 refine gs (gs (gB (ra hA 1 (by cbv) (oz ?_))))
 refine go_block ?_
 refine go_loopE (fun σ m => ∃ (i : Nat) (ro : RR) (n5 : Int) (kk : Int), σ = (S73_1 hv kk n5 ro) ∧ (n5 = (i : Int) ∧ i ≤ List.length x ∧ kk = k + cnMailS (x.take i) ∧ ro = List.map eoMail (mkMailS k (x.take i) ++ x.drop i)) ∧ m = List.length x - i) _ [] [0, 1, 5] [1000000000] (S73_1 hv k 0 x_r) rfl (by cbv) ⟨0, x_r, 0, k, rfl, ?_, rfl⟩ (fun σ m hI => ?_)
 ·
  exact ⟨rfl, Nat.zero_le _, by simp [cnMailS], b3⟩
 obtain ⟨i, ro, n5, kk, rfl, ⟨hn5, hi, hkk, hro⟩, rfl⟩ := hI
 have hlro : (List.length ro : Int) = List.length x := by
  rw [hro]; simp only [List.length_map, List.length_append, mkMailS_len, List.length_take, List.length_drop]; omega
 have lro : A.rlen ro = (List.length x : Int) := by
  rw [rlen_map hA hro]; simp only [List.length_append, mkMailS_len, List.length_take, List.length_drop]; omega
 refine gs (gs (gB (ra hA 4 (by cbv) (oz ?_))))
 refine go_cond rfl (fun c1 => ?_) (fun c1 => ?_)
 ·
  have ec1 : n5 < (A.rlen ro) := lss_t hA c1
  refine gk (gs ?_)
  refine go_block ?_
  refine gs ?_
  have h05 : (0 : Int) ≤ n5 := by omega
  have hlt : Int.toNat n5 < List.length x := by omega
  obtain ⟨y, hy⟩ : ∃ y, x[Int.toNat n5]? = some y := ⟨_, List.getElem?_eq_getElem hlt⟩
  have hyi : x[i]? = some y := by have h := hy; rw [hn5] at h; exact h
  have cat := cnMailS_at hyi
  have cle := cnMailS_le x (i + 1)
  have cnn := cnMailS_nn (x.take i)
  have cce : ceMail y = _ := rfl
  have b7 : ro = List.map eoMail (mkMailS k (x.take i) ++ y :: x.drop (i + 1)) := by
   rw [hro, ← drop_at hyi]
  have c3 : ro[Int.toNat n5]? = some (eoMail y) := by
   rw [b7, hn5]; exact mark_get (by rw [mkMailS_len, List.length_take]; omega)
  obtain ⟨g2, c6, a9⟩ := y
  have hzro : ro[Int.toNat n5]? = some [.int .i64 g2, .int .i64 c6, .str a9] := by exact c3
  have cce : ceMail (⟨g2, c6, a9⟩ : GMail) = 1 + 1 + 1 := rfl
  obtain ⟨r3, hr3, e3⟩ : ∃ r : Int, r = 0 ∧ 0 ≤ r := ⟨0, rfl, by decide⟩
  obtain ⟨r2, hr2, e2⟩ : ∃ r : Int, r = 1 + r3 ∧ 0 ≤ r := ⟨_, rfl, nn_add (by decide) e3⟩
  obtain ⟨r1, hr1, e1⟩ : ∃ r : Int, r = 1 + r2 ∧ 0 ≤ r := ⟨_, rfl, nn_add (by decide) e2⟩
  obtain ⟨r0, hr0, e0⟩ : ∃ r : Int, r = 1 + r1 ∧ 0 ≤ r := ⟨_, rfl, nn_add (by decide) e1⟩
  have p0 : 0 ≤ kk := by clear hr3 e3 hr2 e2 hr1 e1 hr0 e0; omega
  have hrce : r0 = ceMail (⟨g2, c6, a9⟩ : GMail) := by subst hr3 hr2 hr1 hr0; rw [cce]; omega
  have q0 : kk + r0 ≤ 1099511627776 ∧ kk + r0 = kk + r0 := ⟨by clear hr3 e3 hr2 e2 hr1 e1 hr0 e0; omega, rfl⟩
  have b1 : n5 < (List.length x : Int) := by clear hr3 e3 hr2 e2 hr1 e1 hr0 e0; omega
  have hi1 : i + 1 ≤ List.length x := by clear hr3 e3 hr2 e2 hr1 e1 hr0 e0; omega
  have d0 : A.num .add .i64 n5 1 = ((i + 1 : Nat) : Int) := by
   clear hr3 e3 hr2 e2 hr1 e1 hr0 e0; rw [add_i64 hA (by omega) (by omega)]; omega
  have hlen : i = List.length (mkMailS k (x.take i)) := by rw [mkMailS_len, List.length_take]; clear hr3 e3 hr2 e2 hr1 e1 hr0 e0; omega
  have hdec : List.length x - (i + 1) < List.length x - i := by clear hr3 e3 hr2 e2 hr1 e1 hr0 e0; omega
  refine gB (ra hA 3 (by cbv) ?_)
  have d3 : n5 < (List.length ro : Int) := by rw [hlro]; exact b1
  refine ops_step rfl rfl (idx_own rfl rfl rfl rfl rfl rfl h05 d3 rfl) ?_
  refine ra hA 1 (by cbv) ?_
  obtain ⟨o3, ho3⟩ := nm (ro.set (Int.toNat n5) [.int .i64 kk, .int .i64 c6, .str a9])
  have go3 : o3 = ro.set (Int.toNat n5) [.int .i64 kk, .int .i64 c6, .str a9] := ho3
  have c7 : (List.length o3 : Int) = List.length x := by rw [go3, List.length_set]; exact hlro
  have c8 : o3[(Int.toNat n5)]? = some [.int .i64 kk, .int .i64 c6, .str a9] := by rw [go3]; exact set_self hzro
  have d2 : o3 = ro.set (Int.toNat n5) [.int .i64 kk, .int .i64 c6, .str a9] := go3
  refine ops_step rfl rfl (sto_arr (r := [.int .i64 g2, .int .i64 c6, .str a9]) (cs := [.int .i64 kk]) rfl rfl rfl rfl rfl ⟨_, _, rfl⟩ rfl rfl hzro rfl ho3) ?_
  refine oz ?_
  refine gs (gB (ra hA 1 (by cbv) ?_))
  obtain ⟨k4, wk4, d4, pk4, qk4⟩ := add_one hA p0 q0 hr0 e1
  refine ops_step rfl rfl (int_add hA rfl rfl rfl d4) ?_
  refine ra hA 1 (by cbv) (oz ?_)
  refine gs (gB (ra hA 3 (by cbv) ?_))
  have g4 : n5 < (List.length o3 : Int) := by rw [c7]; exact b1
  refine ops_step rfl rfl (idx_own rfl rfl rfl rfl rfl rfl h05 g4 rfl) ?_
  refine ra hA 1 (by cbv) ?_
  obtain ⟨o6, ho6⟩ := nm (o3.set (Int.toNat n5) [.int .i64 kk, .int .i64 k4, .str a9])
  have go6 : o6 = o3.set (Int.toNat n5) [.int .i64 kk, .int .i64 k4, .str a9] := ho6
  have f3 : (List.length o6 : Int) = List.length x := by rw [go6, List.length_set]; exact c7
  have f4 : o6[(Int.toNat n5)]? = some [.int .i64 kk, .int .i64 k4, .str a9] := by rw [go6]; exact set_self c8
  have i1 : o6 = ro.set (Int.toNat n5) [.int .i64 kk, .int .i64 k4, .str a9] := by rw [go6, d2, List.set_set]
  refine ops_step rfl rfl (sto_arr (r := [.int .i64 kk, .int .i64 c6, .str a9]) (cs := [.int .i64 k4]) rfl rfl rfl rfl rfl ⟨_, _, rfl⟩ rfl rfl c8 rfl ho6) ?_
  refine oz ?_
  refine gs (gB (ra hA 1 (by cbv) ?_))
  obtain ⟨k7, wk7, g9, pk7, qk7⟩ := add_one hA pk4 qk4 hr1 e2
  refine ops_step rfl rfl (int_add hA rfl rfl rfl g9) ?_
  refine ra hA 1 (by cbv) (oz ?_)
  refine gs (gB (ra hA 3 (by cbv) ?_))
  obtain ⟨d7, n4, hc9⟩ : ∃ (d7 : ByteArray), d7 = (mt k7) ∧ Real Tryz.prog 71 [.int .i64 k7] (.str d7) := ⟨_, rfl, by exact r_laws_markText A hA k7 pk7 (le_k qk7 e2)⟩
  refine ops_callV rfl rfl (by cbv) (by cbv) hc9 (.inr rfl) (by cbv) ?_
  have t3 : n5 < (List.length o6 : Int) := by rw [f3]; exact b1
  refine ops_step rfl rfl (idx_own rfl rfl rfl rfl rfl rfl h05 t3 rfl) ?_
  refine ra hA 1 (by cbv) ?_
  obtain ⟨o11, p3⟩ := nm (o6.set (Int.toNat n5) [.int .i64 kk, .int .i64 k4, .str d7])
  have l0 : o11 = o6.set (Int.toNat n5) [.int .i64 kk, .int .i64 k4, .str d7] := p3
  have x8 : (List.length o11 : Int) = List.length x := by rw [l0, List.length_set]; exact f3
  have x6 : o11[(Int.toNat n5)]? = some [.int .i64 kk, .int .i64 k4, .str d7] := by rw [l0]; exact set_self f4
  have t6 : o11 = ro.set (Int.toNat n5) [.int .i64 kk, .int .i64 k4, .str d7] := by rw [l0, i1, List.set_set]
  refine ops_step rfl rfl (sto_arr (r := [.int .i64 kk, .int .i64 k4, .str a9]) (cs := [.str d7]) rfl rfl rfl rfl rfl ⟨_, _, rfl⟩ rfl rfl f4 rfl p3) ?_
  refine oz ?_
  refine gB (ra hA 1 (by cbv) ?_)
  obtain ⟨k12, w8, t8, y1, v1⟩ := add_one hA pk7 qk7 hr2 e3
  refine ops_step rfl rfl (int_add hA rfl rfl rfl t8) ?_
  refine ra hA 1 (by cbv) (oz ?_)
  refine gB (ra hA 1 (by cbv) (ra hA 1 (by cbv) (ra hA 1 (by cbv) (oz ?_))))
  refine ⟨(S73_1 hv k12 (A.num .add .i64 n5 1) o11), List.length x - (i + 1), ?_, by cbv, i + 1, o11, (A.num .add .i64 n5 1), k12, rfl, ?_, rfl⟩
  ·
   exact hdec
  ·
   have hrow : ([.int .i64 kk, .int .i64 k4, .str d7] : List PV) = eoMail (meMail kk (⟨g2, c6, a9⟩ : GMail)) := by
    subst wk4 wk7 w8
    show _ = ([_, _, _] : List PV)
    exact congr (congrArg List.cons (congrArg (PV.int .i64) rfl)) (congr (congrArg List.cons (congrArg (PV.int .i64) rfl)) (congr (congrArg List.cons (congrArg PV.str n4)) (rfl)))
   refine ⟨d0, hi1, fin_k v1 hr3 hrce hkk cat, ?_⟩
   rw [t6, hrow, b7, hn5, mkMailS_at k hyi, ← hkk]
   exact mark_set (hlen.symm.trans (Int.toNat_natCast i).symm)
 ·
  have ec1 : (A.rlen ro) ≤ n5 := lss_f hA c1
  refine go_exit ⟨fun _ => ?_, fun h => absurd rfl h⟩
  refine gs (gB (ra hA 2 (by cbv) (oz ?_)))
  refine go_ret ⟨⟨rfl, trivial⟩, Eq.trans (b := some [.ow 3 ro, .int .i64 k]) (by cbv) ?_, _, by cbv, ?_⟩
  ·
   rw [hro, List.take_of_length_le (by omega), List.drop_of_length_le (by omega), List.append_nil]
  ·
   show _ = (PV.int .i64 kk)
   refine congrArg (PV.int .i64) ?_
   rw [hkk, List.take_of_length_le (by omega)]
def S158_1 (hv : Nat → Value) (p0 : Int) (p1 : Int) (p2 : RR) : St := { sl := [.own 1000000000, .int .i64 p0, .bad, .bad, .bad, .int .i64 p1, .bad, .bad, .bad, .bad, .bad, .bad, .bad, .bad, .bad, .bad, .bad, .bad, .bad, .bad, .bad, .bad, .bad, .bad, .bad, .bad, .bad, .bad, .bad, .bad, .bad, .bad, .bad, .bad, .bad, .bad, .bad, .bad, .bad, .bad, .bad, .bad, .bad, .bad, .bad, .bad, .bad, .bad, .bad, .bad, .bad, .bad, .bad, .bad, .bad, .bad, .bad, .bad, .bad, .bad, .bad, .bad, .bad, .bad, .bad, .bad, .bad, .bad, .bad, .bad, .bad, .bad, .bad, .bad, .bad, .bad, .bad, .bad, .bad, .bad, .bad, .bad, .bad, .bad, .bad, .bad, .bad], bl := [(1000000000, ⟨.arr, 9, p2⟩)], hd := [(1000000000, hv 1000000000)] }
theorem m_laws_markItemS (A : Alg) (hA : A = std) (x : List GItem) (k : Int) (h0 : 0 ≤ k) (h1 : k + cnItemS x ≤ 1099511627776) : RealM Tryz.prog 158 [.ow 9 (List.map eoItem x), .int .i64 k] [.ow 9 (List.map eoItem (mkItemS k x)), .int .i64 k] (.int .i64 (k + cnItemS x)) := by
 obtain ⟨x_r, b3⟩ := nm (x.map eoItem)
 have f8 := rlen_map hA b3
 refine realM_args (args1 := [.ow 9 x_r, .int .i64 k]) (by subst b3; rfl) rfl ?_
 have h2 : (List.length x : Int) ≤ 1099511627776 := by have := cnItemS_ge x; omega
 refine realM tyOk Tryz.func158 (by kernel_rfl) (afunM_of rfl (by cbv) (fun hv => ?_))
 refine gs (gB (ra hA 1 (by cbv) (oz ?_)))
 refine gs (gs (gB (ra hA 1 (by cbv) (oz ?_))))
 refine go_block ?_
 refine go_loopE (fun σ m => ∃ (i : Nat) (ro : RR) (n5 : Int) (kk : Int), σ = (S158_1 hv kk n5 ro) ∧ (n5 = (i : Int) ∧ i ≤ List.length x ∧ kk = k + cnItemS (x.take i) ∧ ro = List.map eoItem (mkItemS k (x.take i) ++ x.drop i)) ∧ m = List.length x - i) _ [] [0, 1, 5] [1000000000] (S158_1 hv k 0 x_r) rfl (by cbv) ⟨0, x_r, 0, k, rfl, ?_, rfl⟩ (fun σ m hI => ?_)
 ·
  exact ⟨rfl, Nat.zero_le _, by simp [cnItemS], b3⟩
 obtain ⟨i, ro, n5, kk, rfl, ⟨hn5, hi, hkk, hro⟩, rfl⟩ := hI
 have hlro : (List.length ro : Int) = List.length x := by
  rw [hro]; simp only [List.length_map, List.length_append, mkItemS_len, List.length_take, List.length_drop]; omega
 have lro : A.rlen ro = (List.length x : Int) := by
  rw [rlen_map hA hro]; simp only [List.length_append, mkItemS_len, List.length_take, List.length_drop]; omega
 refine gs (gs (gB (ra hA 4 (by cbv) (oz ?_))))
 refine go_cond rfl (fun c1 => ?_) (fun c1 => ?_)
 ·
  have ec1 : n5 < (A.rlen ro) := lss_t hA c1
  refine gk (gs ?_)
  refine go_block ?_
  refine gs ?_
  have h05 : (0 : Int) ≤ n5 := by omega
  have hlt : Int.toNat n5 < List.length x := by omega
  obtain ⟨y, hy⟩ : ∃ y, x[Int.toNat n5]? = some y := ⟨_, List.getElem?_eq_getElem hlt⟩
  have hyi : x[i]? = some y := by have h := hy; rw [hn5] at h; exact h
  have cat := cnItemS_at hyi
  have cle := cnItemS_le x (i + 1)
  have cnn := cnItemS_nn (x.take i)
  have cce : ceItem y = _ := rfl
  have b7 : ro = List.map eoItem (mkItemS k (x.take i) ++ y :: x.drop (i + 1)) := by
   rw [hro, ← drop_at hyi]
  have c3 : ro[Int.toNat n5]? = some (eoItem y) := by
   rw [b7, hn5]; exact mark_get (by rw [mkItemS_len, List.length_take]; omega)
  obtain ⟨g1, ⟨b6, a8, a6, a4, a3, a2, a1, a0⟩⟩ := y
  have hzro : ro[Int.toNat n5]? = some [.int .i64 g1, .int .i64 b6, .int .i64 a8, .int .i64 a6, .int .i64 a4, .int .i64 a3, .str a2, .str a1, .str a0] := by exact c3
  have cce : ceItem (⟨g1, ⟨b6, a8, a6, a4, a3, a2, a1, a0⟩⟩ : GItem) = 1 + 1 + 1 + 1 + 1 + 1 + 1 + 1 + 1 := rfl
  obtain ⟨r9, hr9, e9⟩ : ∃ r : Int, r = 0 ∧ 0 ≤ r := ⟨0, rfl, by decide⟩
  obtain ⟨r8, hr8, e8⟩ : ∃ r : Int, r = 1 + r9 ∧ 0 ≤ r := ⟨_, rfl, nn_add (by decide) e9⟩
  obtain ⟨r7, hr7, e7⟩ : ∃ r : Int, r = 1 + r8 ∧ 0 ≤ r := ⟨_, rfl, nn_add (by decide) e8⟩
  obtain ⟨r6, hr6, e6⟩ : ∃ r : Int, r = 1 + r7 ∧ 0 ≤ r := ⟨_, rfl, nn_add (by decide) e7⟩
  obtain ⟨r5, hr5, e5⟩ : ∃ r : Int, r = 1 + r6 ∧ 0 ≤ r := ⟨_, rfl, nn_add (by decide) e6⟩
  obtain ⟨r4, hr4, e4⟩ : ∃ r : Int, r = 1 + r5 ∧ 0 ≤ r := ⟨_, rfl, nn_add (by decide) e5⟩
  obtain ⟨r3, hr3, e3⟩ : ∃ r : Int, r = 1 + r4 ∧ 0 ≤ r := ⟨_, rfl, nn_add (by decide) e4⟩
  obtain ⟨r2, hr2, e2⟩ : ∃ r : Int, r = 1 + r3 ∧ 0 ≤ r := ⟨_, rfl, nn_add (by decide) e3⟩
  obtain ⟨r1, hr1, e1⟩ : ∃ r : Int, r = 1 + r2 ∧ 0 ≤ r := ⟨_, rfl, nn_add (by decide) e2⟩
  obtain ⟨r0, hr0, e0⟩ : ∃ r : Int, r = 1 + r1 ∧ 0 ≤ r := ⟨_, rfl, nn_add (by decide) e1⟩
  have p0 : 0 ≤ kk := by clear hr9 e9 hr8 e8 hr7 e7 hr6 e6 hr5 e5 hr4 e4 hr3 e3 hr2 e2 hr1 e1 hr0 e0; omega
  have hrce : r0 = ceItem (⟨g1, ⟨b6, a8, a6, a4, a3, a2, a1, a0⟩⟩ : GItem) := by subst hr9 hr8 hr7 hr6 hr5 hr4 hr3 hr2 hr1 hr0; rw [cce]; omega
  have q0 : kk + r0 ≤ 1099511627776 ∧ kk + r0 = kk + r0 := ⟨by clear hr9 e9 hr8 e8 hr7 e7 hr6 e6 hr5 e5 hr4 e4 hr3 e3 hr2 e2 hr1 e1 hr0 e0; omega, rfl⟩
  have b1 : n5 < (List.length x : Int) := by clear hr9 e9 hr8 e8 hr7 e7 hr6 e6 hr5 e5 hr4 e4 hr3 e3 hr2 e2 hr1 e1 hr0 e0; omega
  have hi1 : i + 1 ≤ List.length x := by clear hr9 e9 hr8 e8 hr7 e7 hr6 e6 hr5 e5 hr4 e4 hr3 e3 hr2 e2 hr1 e1 hr0 e0; omega
  have d0 : A.num .add .i64 n5 1 = ((i + 1 : Nat) : Int) := by
   clear hr9 e9 hr8 e8 hr7 e7 hr6 e6 hr5 e5 hr4 e4 hr3 e3 hr2 e2 hr1 e1 hr0 e0; rw [add_i64 hA (by omega) (by omega)]; omega
  have hlen : i = List.length (mkItemS k (x.take i)) := by rw [mkItemS_len, List.length_take]; clear hr9 e9 hr8 e8 hr7 e7 hr6 e6 hr5 e5 hr4 e4 hr3 e3 hr2 e2 hr1 e1 hr0 e0; omega
  have hdec : List.length x - (i + 1) < List.length x - i := by clear hr9 e9 hr8 e8 hr7 e7 hr6 e6 hr5 e5 hr4 e4 hr3 e3 hr2 e2 hr1 e1 hr0 e0; omega
  refine gB (ra hA 3 (by cbv) ?_)
  have d3 : n5 < (List.length ro : Int) := by rw [hlro]; exact b1
  refine ops_step rfl rfl (idx_own rfl rfl rfl rfl rfl rfl h05 d3 rfl) ?_
  refine ra hA 1 (by cbv) ?_
  obtain ⟨o3, ho3⟩ := nm (ro.set (Int.toNat n5) [.int .i64 kk, .int .i64 b6, .int .i64 a8, .int .i64 a6, .int .i64 a4, .int .i64 a3, .str a2, .str a1, .str a0])
  have go3 : o3 = ro.set (Int.toNat n5) [.int .i64 kk, .int .i64 b6, .int .i64 a8, .int .i64 a6, .int .i64 a4, .int .i64 a3, .str a2, .str a1, .str a0] := ho3
  have c7 : (List.length o3 : Int) = List.length x := by rw [go3, List.length_set]; exact hlro
  have c8 : o3[(Int.toNat n5)]? = some [.int .i64 kk, .int .i64 b6, .int .i64 a8, .int .i64 a6, .int .i64 a4, .int .i64 a3, .str a2, .str a1, .str a0] := by rw [go3]; exact set_self hzro
  have d2 : o3 = ro.set (Int.toNat n5) [.int .i64 kk, .int .i64 b6, .int .i64 a8, .int .i64 a6, .int .i64 a4, .int .i64 a3, .str a2, .str a1, .str a0] := go3
  refine ops_step rfl rfl (sto_arr (r := [.int .i64 g1, .int .i64 b6, .int .i64 a8, .int .i64 a6, .int .i64 a4, .int .i64 a3, .str a2, .str a1, .str a0]) (cs := [.int .i64 kk]) rfl rfl rfl rfl rfl ⟨_, _, rfl⟩ rfl rfl hzro rfl ho3) ?_
  refine oz ?_
  refine gs (gB (ra hA 1 (by cbv) ?_))
  obtain ⟨k4, wk4, d4, pk4, qk4⟩ := add_one hA p0 q0 hr0 e1
  refine ops_step rfl rfl (int_add hA rfl rfl rfl d4) ?_
  refine ra hA 1 (by cbv) (oz ?_)
  refine gs (gB (ra hA 3 (by cbv) ?_))
  have g4 : n5 < (List.length o3 : Int) := by rw [c7]; exact b1
  refine ops_step rfl rfl (idx_own rfl rfl rfl rfl rfl rfl h05 g4 rfl) ?_
  refine ra hA 2 (by cbv) ?_
  obtain ⟨o6, ho6⟩ := nm (o3.set (Int.toNat n5) [.int .i64 kk, .int .i64 k4, .int .i64 a8, .int .i64 a6, .int .i64 a4, .int .i64 a3, .str a2, .str a1, .str a0])
  have go6 : o6 = o3.set (Int.toNat n5) [.int .i64 kk, .int .i64 k4, .int .i64 a8, .int .i64 a6, .int .i64 a4, .int .i64 a3, .str a2, .str a1, .str a0] := ho6
  have f3 : (List.length o6 : Int) = List.length x := by rw [go6, List.length_set]; exact c7
  have f4 : o6[(Int.toNat n5)]? = some [.int .i64 kk, .int .i64 k4, .int .i64 a8, .int .i64 a6, .int .i64 a4, .int .i64 a3, .str a2, .str a1, .str a0] := by rw [go6]; exact set_self c8
  have i1 : o6 = ro.set (Int.toNat n5) [.int .i64 kk, .int .i64 k4, .int .i64 a8, .int .i64 a6, .int .i64 a4, .int .i64 a3, .str a2, .str a1, .str a0] := by rw [go6, d2, List.set_set]
  refine ops_step rfl rfl (sto_arr (r := [.int .i64 kk, .int .i64 b6, .int .i64 a8, .int .i64 a6, .int .i64 a4, .int .i64 a3, .str a2, .str a1, .str a0]) (cs := [.int .i64 k4]) rfl rfl rfl rfl rfl ⟨_, _, rfl⟩ rfl rfl c8 rfl ho6) ?_
  refine oz ?_
  refine gs (gB (ra hA 1 (by cbv) ?_))
  obtain ⟨k7, wk7, g9, pk7, qk7⟩ := add_one hA pk4 qk4 hr1 e2
  refine ops_step rfl rfl (int_add hA rfl rfl rfl g9) ?_
  refine ra hA 1 (by cbv) (oz ?_)
  refine gs (gB (ra hA 3 (by cbv) ?_))
  have k0 : n5 < (List.length o6 : Int) := by rw [f3]; exact b1
  refine ops_step rfl rfl (idx_own rfl rfl rfl rfl rfl rfl h05 k0 rfl) ?_
  refine ra hA 2 (by cbv) ?_
  obtain ⟨o9, ho9⟩ := nm (o6.set (Int.toNat n5) [.int .i64 kk, .int .i64 k4, .int .i64 k7, .int .i64 a6, .int .i64 a4, .int .i64 a3, .str a2, .str a1, .str a0])
  have go9 : o9 = o6.set (Int.toNat n5) [.int .i64 kk, .int .i64 k4, .int .i64 k7, .int .i64 a6, .int .i64 a4, .int .i64 a3, .str a2, .str a1, .str a0] := ho9
  have i0 : (List.length o9 : Int) = List.length x := by rw [go9, List.length_set]; exact f3
  have i2 : o9[(Int.toNat n5)]? = some [.int .i64 kk, .int .i64 k4, .int .i64 k7, .int .i64 a6, .int .i64 a4, .int .i64 a3, .str a2, .str a1, .str a0] := by rw [go9]; exact set_self f4
  have j4 : o9 = ro.set (Int.toNat n5) [.int .i64 kk, .int .i64 k4, .int .i64 k7, .int .i64 a6, .int .i64 a4, .int .i64 a3, .str a2, .str a1, .str a0] := by rw [go9, i1, List.set_set]
  refine ops_step rfl rfl (sto_arr (r := [.int .i64 kk, .int .i64 k4, .int .i64 a8, .int .i64 a6, .int .i64 a4, .int .i64 a3, .str a2, .str a1, .str a0]) (cs := [.int .i64 k7]) rfl rfl rfl rfl rfl ⟨_, _, rfl⟩ rfl rfl f4 rfl ho9) ?_
  refine oz ?_
  refine gs (gB (ra hA 1 (by cbv) ?_))
  obtain ⟨k10, j9, i5, i6, i8⟩ := add_one hA pk7 qk7 hr2 e3
  refine ops_step rfl rfl (int_add hA rfl rfl rfl i5) ?_
  refine ra hA 1 (by cbv) (oz ?_)
  refine gs (gB (ra hA 3 (by cbv) ?_))
  have i9 : n5 < (List.length o9 : Int) := by rw [i0]; exact b1
  refine ops_step rfl rfl (idx_own rfl rfl rfl rfl rfl rfl h05 i9 rfl) ?_
  refine ra hA 2 (by cbv) ?_
  obtain ⟨o12, i3⟩ := nm (o9.set (Int.toNat n5) [.int .i64 kk, .int .i64 k4, .int .i64 k7, .int .i64 k10, .int .i64 a4, .int .i64 a3, .str a2, .str a1, .str a0])
  have f7 : o12 = o9.set (Int.toNat n5) [.int .i64 kk, .int .i64 k4, .int .i64 k7, .int .i64 k10, .int .i64 a4, .int .i64 a3, .str a2, .str a1, .str a0] := i3
  have g3 : (List.length o12 : Int) = List.length x := by rw [f7, List.length_set]; exact i0
  have g0 : o12[(Int.toNat n5)]? = some [.int .i64 kk, .int .i64 k4, .int .i64 k7, .int .i64 k10, .int .i64 a4, .int .i64 a3, .str a2, .str a1, .str a0] := by rw [f7]; exact set_self i2
  have j1 : o12 = ro.set (Int.toNat n5) [.int .i64 kk, .int .i64 k4, .int .i64 k7, .int .i64 k10, .int .i64 a4, .int .i64 a3, .str a2, .str a1, .str a0] := by rw [f7, j4, List.set_set]
  refine ops_step rfl rfl (sto_arr (r := [.int .i64 kk, .int .i64 k4, .int .i64 k7, .int .i64 a6, .int .i64 a4, .int .i64 a3, .str a2, .str a1, .str a0]) (cs := [.int .i64 k10]) rfl rfl rfl rfl rfl ⟨_, _, rfl⟩ rfl rfl i2 rfl i3) ?_
  refine oz ?_
  refine gs (gB (ra hA 1 (by cbv) ?_))
  obtain ⟨k13, w2, q5, v5, w7⟩ := add_one hA i6 i8 hr3 e4
  refine ops_step rfl rfl (int_add hA rfl rfl rfl q5) ?_
  refine ra hA 1 (by cbv) (oz ?_)
  refine gs (gB (ra hA 3 (by cbv) ?_))
  have t2 : n5 < (List.length o12 : Int) := by rw [g3]; exact b1
  refine ops_step rfl rfl (idx_own rfl rfl rfl rfl rfl rfl h05 t2 rfl) ?_
  refine ra hA 2 (by cbv) ?_
  obtain ⟨o15, g5⟩ := nm (o12.set (Int.toNat n5) [.int .i64 kk, .int .i64 k4, .int .i64 k7, .int .i64 k10, .int .i64 k13, .int .i64 a3, .str a2, .str a1, .str a0])
  have f9 : o15 = o12.set (Int.toNat n5) [.int .i64 kk, .int .i64 k4, .int .i64 k7, .int .i64 k10, .int .i64 k13, .int .i64 a3, .str a2, .str a1, .str a0] := g5
  have i7 : (List.length o15 : Int) = List.length x := by rw [f9, List.length_set]; exact g3
  have i4 : o15[(Int.toNat n5)]? = some [.int .i64 kk, .int .i64 k4, .int .i64 k7, .int .i64 k10, .int .i64 k13, .int .i64 a3, .str a2, .str a1, .str a0] := by rw [f9]; exact set_self g0
  have j0 : o15 = ro.set (Int.toNat n5) [.int .i64 kk, .int .i64 k4, .int .i64 k7, .int .i64 k10, .int .i64 k13, .int .i64 a3, .str a2, .str a1, .str a0] := by rw [f9, j1, List.set_set]
  refine ops_step rfl rfl (sto_arr (r := [.int .i64 kk, .int .i64 k4, .int .i64 k7, .int .i64 k10, .int .i64 a4, .int .i64 a3, .str a2, .str a1, .str a0]) (cs := [.int .i64 k13]) rfl rfl rfl rfl rfl ⟨_, _, rfl⟩ rfl rfl g0 rfl g5) ?_
  refine oz ?_
  refine gs (gB (ra hA 1 (by cbv) ?_))
  obtain ⟨k16, w0, q6, w6, v7⟩ := add_one hA v5 w7 hr4 e5
  refine ops_step rfl rfl (int_add hA rfl rfl rfl q6) ?_
  refine ra hA 1 (by cbv) (oz ?_)
  refine gs (gB (ra hA 3 (by cbv) ?_))
  have t9 : n5 < (List.length o15 : Int) := by rw [i7]; exact b1
  refine ops_step rfl rfl (idx_own rfl rfl rfl rfl rfl rfl h05 t9 rfl) ?_
  refine ra hA 2 (by cbv) ?_
  obtain ⟨o18, n8⟩ := nm (o15.set (Int.toNat n5) [.int .i64 kk, .int .i64 k4, .int .i64 k7, .int .i64 k10, .int .i64 k13, .int .i64 k16, .str a2, .str a1, .str a0])
  have k2 : o18 = o15.set (Int.toNat n5) [.int .i64 kk, .int .i64 k4, .int .i64 k7, .int .i64 k10, .int .i64 k13, .int .i64 k16, .str a2, .str a1, .str a0] := n8
  have m1 : (List.length o18 : Int) = List.length x := by rw [k2, List.length_set]; exact i7
  have m2 : o18[(Int.toNat n5)]? = some [.int .i64 kk, .int .i64 k4, .int .i64 k7, .int .i64 k10, .int .i64 k13, .int .i64 k16, .str a2, .str a1, .str a0] := by rw [k2]; exact set_self i4
  have q7 : o18 = ro.set (Int.toNat n5) [.int .i64 kk, .int .i64 k4, .int .i64 k7, .int .i64 k10, .int .i64 k13, .int .i64 k16, .str a2, .str a1, .str a0] := by rw [k2, j0, List.set_set]
  refine ops_step rfl rfl (sto_arr (r := [.int .i64 kk, .int .i64 k4, .int .i64 k7, .int .i64 k10, .int .i64 k13, .int .i64 a3, .str a2, .str a1, .str a0]) (cs := [.int .i64 k16]) rfl rfl rfl rfl rfl ⟨_, _, rfl⟩ rfl rfl i4 rfl n8) ?_
  refine oz ?_
  refine gs (gB (ra hA 1 (by cbv) ?_))
  obtain ⟨k19, w3, t1, n6, o2⟩ := add_one hA w6 v7 hr5 e6
  refine ops_step rfl rfl (int_add hA rfl rfl rfl t1) ?_
  refine ra hA 1 (by cbv) (oz ?_)
  refine gs (gB (ra hA 3 (by cbv) ?_))
  obtain ⟨b5, m7, u7⟩ : ∃ (b5 : ByteArray), b5 = (mt k19) ∧ Real Tryz.prog 71 [.int .i64 k19] (.str b5) := ⟨_, rfl, by exact r_laws_markText A hA k19 n6 (le_k o2 e6)⟩
  refine ops_callV rfl rfl (by cbv) (by cbv) u7 (.inr rfl) (by cbv) ?_
  have s0 : n5 < (List.length o18 : Int) := by rw [m1]; exact b1
  refine ops_step rfl rfl (idx_own rfl rfl rfl rfl rfl rfl h05 s0 rfl) ?_
  refine ra hA 2 (by cbv) ?_
  obtain ⟨o23, o0⟩ := nm (o18.set (Int.toNat n5) [.int .i64 kk, .int .i64 k4, .int .i64 k7, .int .i64 k10, .int .i64 k13, .int .i64 k16, .str b5, .str a1, .str a0])
  have k8 : o23 = o18.set (Int.toNat n5) [.int .i64 kk, .int .i64 k4, .int .i64 k7, .int .i64 k10, .int .i64 k13, .int .i64 k16, .str b5, .str a1, .str a0] := o0
  have l8 : (List.length o23 : Int) = List.length x := by rw [k8, List.length_set]; exact m1
  have l5 : o23[(Int.toNat n5)]? = some [.int .i64 kk, .int .i64 k4, .int .i64 k7, .int .i64 k10, .int .i64 k13, .int .i64 k16, .str b5, .str a1, .str a0] := by rw [k8]; exact set_self m2
  have t0 : o23 = ro.set (Int.toNat n5) [.int .i64 kk, .int .i64 k4, .int .i64 k7, .int .i64 k10, .int .i64 k13, .int .i64 k16, .str b5, .str a1, .str a0] := by rw [k8, q7, List.set_set]
  refine ops_step rfl rfl (sto_arr (r := [.int .i64 kk, .int .i64 k4, .int .i64 k7, .int .i64 k10, .int .i64 k13, .int .i64 k16, .str a2, .str a1, .str a0]) (cs := [.str b5]) rfl rfl rfl rfl rfl ⟨_, _, rfl⟩ rfl rfl m2 rfl o0) ?_
  refine oz ?_
  refine gs (gB (ra hA 1 (by cbv) ?_))
  obtain ⟨k24, v2, q1, n3, o1⟩ := add_one hA n6 o2 hr6 e7
  refine ops_step rfl rfl (int_add hA rfl rfl rfl q1) ?_
  refine ra hA 1 (by cbv) (oz ?_)
  refine gs (gB (ra hA 3 (by cbv) ?_))
  obtain ⟨b9, m8, x1⟩ : ∃ (b9 : ByteArray), b9 = (mt k24) ∧ Real Tryz.prog 71 [.int .i64 k24] (.str b9) := ⟨_, rfl, by exact r_laws_markText A hA k24 n3 (le_k o1 e7)⟩
  refine ops_callV rfl rfl (by cbv) (by cbv) x1 (.inr rfl) (by cbv) ?_
  have u5 : n5 < (List.length o23 : Int) := by rw [l8]; exact b1
  refine ops_step rfl rfl (idx_own rfl rfl rfl rfl rfl rfl h05 u5 rfl) ?_
  refine ra hA 2 (by cbv) ?_
  obtain ⟨o28, n2⟩ := nm (o23.set (Int.toNat n5) [.int .i64 kk, .int .i64 k4, .int .i64 k7, .int .i64 k10, .int .i64 k13, .int .i64 k16, .str b5, .str b9, .str a0])
  have k3 : o28 = o23.set (Int.toNat n5) [.int .i64 kk, .int .i64 k4, .int .i64 k7, .int .i64 k10, .int .i64 k13, .int .i64 k16, .str b5, .str b9, .str a0] := n2
  have l9 : (List.length o28 : Int) = List.length x := by rw [k3, List.length_set]; exact l8
  have l7 : o28[(Int.toNat n5)]? = some [.int .i64 kk, .int .i64 k4, .int .i64 k7, .int .i64 k10, .int .i64 k13, .int .i64 k16, .str b5, .str b9, .str a0] := by rw [k3]; exact set_self l5
  have s9 : o28 = ro.set (Int.toNat n5) [.int .i64 kk, .int .i64 k4, .int .i64 k7, .int .i64 k10, .int .i64 k13, .int .i64 k16, .str b5, .str b9, .str a0] := by rw [k3, t0, List.set_set]
  refine ops_step rfl rfl (sto_arr (r := [.int .i64 kk, .int .i64 k4, .int .i64 k7, .int .i64 k10, .int .i64 k13, .int .i64 k16, .str b5, .str a1, .str a0]) (cs := [.str b9]) rfl rfl rfl rfl rfl ⟨_, _, rfl⟩ rfl rfl l5 rfl n2) ?_
  refine oz ?_
  refine gs (gB (ra hA 1 (by cbv) ?_))
  obtain ⟨k29, u6, p9, n7, p7⟩ := add_one hA n3 o1 hr7 e8
  refine ops_step rfl rfl (int_add hA rfl rfl rfl p9) ?_
  refine ra hA 1 (by cbv) (oz ?_)
  refine gs (gB (ra hA 3 (by cbv) ?_))
  obtain ⟨d1, m6, v9⟩ : ∃ (d1 : ByteArray), d1 = (mt k29) ∧ Real Tryz.prog 71 [.int .i64 k29] (.str d1) := ⟨_, rfl, by exact r_laws_markText A hA k29 n7 (le_k p7 e8)⟩
  refine ops_callV rfl rfl (by cbv) (by cbv) v9 (.inr rfl) (by cbv) ?_
  have q4 : n5 < (List.length o28 : Int) := by rw [l9]; exact b1
  refine ops_step rfl rfl (idx_own rfl rfl rfl rfl rfl rfl h05 q4 rfl) ?_
  refine ra hA 2 (by cbv) ?_
  obtain ⟨o33, p8⟩ := nm (o28.set (Int.toNat n5) [.int .i64 kk, .int .i64 k4, .int .i64 k7, .int .i64 k10, .int .i64 k13, .int .i64 k16, .str b5, .str b9, .str d1])
  have j5 : o33 = o28.set (Int.toNat n5) [.int .i64 kk, .int .i64 k4, .int .i64 k7, .int .i64 k10, .int .i64 k13, .int .i64 k16, .str b5, .str b9, .str d1] := p8
  have x9 : (List.length o33 : Int) = List.length x := by rw [j5, List.length_set]; exact l9
  have x7 : o33[(Int.toNat n5)]? = some [.int .i64 kk, .int .i64 k4, .int .i64 k7, .int .i64 k10, .int .i64 k13, .int .i64 k16, .str b5, .str b9, .str d1] := by rw [j5]; exact set_self l7
  have s1 : o33 = ro.set (Int.toNat n5) [.int .i64 kk, .int .i64 k4, .int .i64 k7, .int .i64 k10, .int .i64 k13, .int .i64 k16, .str b5, .str b9, .str d1] := by rw [j5, s9, List.set_set]
  refine ops_step rfl rfl (sto_arr (r := [.int .i64 kk, .int .i64 k4, .int .i64 k7, .int .i64 k10, .int .i64 k13, .int .i64 k16, .str b5, .str b9, .str a0]) (cs := [.str d1]) rfl rfl rfl rfl rfl ⟨_, _, rfl⟩ rfl rfl l7 rfl p8) ?_
  refine oz ?_
  refine gB (ra hA 1 (by cbv) ?_)
  obtain ⟨k34, v3, s5, y3, v6⟩ := add_one hA n7 p7 hr8 e9
  refine ops_step rfl rfl (int_add hA rfl rfl rfl s5) ?_
  refine ra hA 1 (by cbv) (oz ?_)
  refine gB (ra hA 1 (by cbv) (ra hA 1 (by cbv) (ra hA 1 (by cbv) (oz ?_))))
  refine ⟨(S158_1 hv k34 (A.num .add .i64 n5 1) o33), List.length x - (i + 1), ?_, by cbv, i + 1, o33, (A.num .add .i64 n5 1), k34, rfl, ?_, rfl⟩
  ·
   exact hdec
  ·
   have hrow : ([.int .i64 kk, .int .i64 k4, .int .i64 k7, .int .i64 k10, .int .i64 k13, .int .i64 k16, .str b5, .str b9, .str d1] : List PV) = eoItem (meItem kk (⟨g1, ⟨b6, a8, a6, a4, a3, a2, a1, a0⟩⟩ : GItem)) := by
    subst wk4 wk7 j9 w2 w0 w3 v2 u6 v3
    show _ = ([_, _, _, _, _, _, _, _, _] : List PV)
    exact congr (congrArg List.cons (congrArg (PV.int .i64) rfl)) (congr (congrArg List.cons (congrArg (PV.int .i64) rfl)) (congr (congrArg List.cons (congrArg (PV.int .i64) rfl)) (congr (congrArg List.cons (congrArg (PV.int .i64) rfl)) (congr (congrArg List.cons (congrArg (PV.int .i64) rfl)) (congr (congrArg List.cons (congrArg (PV.int .i64) rfl)) (congr (congrArg List.cons (congrArg PV.str m7)) (congr (congrArg List.cons (congrArg PV.str m8)) (congr (congrArg List.cons (congrArg PV.str m6)) (rfl)))))))))
   refine ⟨d0, hi1, fin_k v6 hr9 hrce hkk cat, ?_⟩
   rw [s1, hrow, b7, hn5, mkItemS_at k hyi, ← hkk]
   exact mark_set (hlen.symm.trans (Int.toNat_natCast i).symm)
 ·
  have ec1 : (A.rlen ro) ≤ n5 := lss_f hA c1
  refine go_exit ⟨fun _ => ?_, fun h => absurd rfl h⟩
  refine gs (gB (ra hA 2 (by cbv) (oz ?_)))
  refine go_ret ⟨⟨rfl, trivial⟩, Eq.trans (b := some [.ow 9 ro, .int .i64 k]) (by cbv) ?_, _, by cbv, ?_⟩
  ·
   rw [hro, List.take_of_length_le (by omega), List.drop_of_length_le (by omega), List.append_nil]
  ·
   show _ = (PV.int .i64 kk)
   refine congrArg (PV.int .i64) ?_
   rw [hkk, List.take_of_length_le (by omega)]
def S118_1 (hv : Nat → Value) (p0 : Int) (p1 : Int) (p2 : RR) : St := { sl := [.own 1000000000, .int .i64 p0, .bad, .bad, .bad, .int .i64 p1, .bad, .bad, .bad, .bad, .bad, .bad, .bad, .bad, .bad, .bad, .bad, .bad, .bad, .bad, .bad, .bad, .bad, .bad, .bad, .bad, .bad, .bad, .bad, .bad, .bad, .bad, .bad, .bad, .bad, .bad, .bad, .bad, .bad, .bad, .bad], bl := [(1000000000, ⟨.arr, 4, p2⟩)], hd := [(1000000000, hv 1000000000)] }
theorem m_laws_markSegS (A : Alg) (hA : A = std) (x : List GSeg) (k : Int) (h0 : 0 ≤ k) (h1 : k + cnSegS x ≤ 1099511627776) : RealM Tryz.prog 118 [.ow 4 (List.map eoSeg x), .int .i64 k] [.ow 4 (List.map eoSeg (mkSegS k x)), .int .i64 k] (.int .i64 (k + cnSegS x)) := by
 obtain ⟨x_r, b3⟩ := nm (x.map eoSeg)
 have f8 := rlen_map hA b3
 refine realM_args (args1 := [.ow 4 x_r, .int .i64 k]) (by subst b3; rfl) rfl ?_
 have h2 : (List.length x : Int) ≤ 1099511627776 := by have := cnSegS_ge x; omega
 refine realM tyOk Tryz.func118 (by kernel_rfl) (afunM_of rfl (by cbv) (fun hv => ?_))
 refine gs (gB (ra hA 1 (by cbv) (oz ?_)))
 refine gs (gs (gB (ra hA 1 (by cbv) (oz ?_))))
 refine go_block ?_
 refine go_loopE (fun σ m => ∃ (i : Nat) (ro : RR) (n5 : Int) (kk : Int), σ = (S118_1 hv kk n5 ro) ∧ (n5 = (i : Int) ∧ i ≤ List.length x ∧ kk = k + cnSegS (x.take i) ∧ ro = List.map eoSeg (mkSegS k (x.take i) ++ x.drop i)) ∧ m = List.length x - i) _ [] [0, 1, 5] [1000000000] (S118_1 hv k 0 x_r) rfl (by cbv) ⟨0, x_r, 0, k, rfl, ?_, rfl⟩ (fun σ m hI => ?_)
 ·
  exact ⟨rfl, Nat.zero_le _, by simp [cnSegS], b3⟩
 obtain ⟨i, ro, n5, kk, rfl, ⟨hn5, hi, hkk, hro⟩, rfl⟩ := hI
 have hlro : (List.length ro : Int) = List.length x := by
  rw [hro]; simp only [List.length_map, List.length_append, mkSegS_len, List.length_take, List.length_drop]; omega
 have lro : A.rlen ro = (List.length x : Int) := by
  rw [rlen_map hA hro]; simp only [List.length_append, mkSegS_len, List.length_take, List.length_drop]; omega
 refine gs (gs (gB (ra hA 4 (by cbv) (oz ?_))))
 refine go_cond rfl (fun c1 => ?_) (fun c1 => ?_)
 ·
  have ec1 : n5 < (A.rlen ro) := lss_t hA c1
  refine gk (gs ?_)
  refine go_block ?_
  refine gs ?_
  have h05 : (0 : Int) ≤ n5 := by omega
  have hlt : Int.toNat n5 < List.length x := by omega
  obtain ⟨y, hy⟩ : ∃ y, x[Int.toNat n5]? = some y := ⟨_, List.getElem?_eq_getElem hlt⟩
  have hyi : x[i]? = some y := by have h := hy; rw [hn5] at h; exact h
  have cat := cnSegS_at hyi
  have cle := cnSegS_le x (i + 1)
  have cnn := cnSegS_nn (x.take i)
  have cce : ceSeg y = _ := rfl
  have b7 : ro = List.map eoSeg (mkSegS k (x.take i) ++ y :: x.drop (i + 1)) := by
   rw [hro, ← drop_at hyi]
  have c3 : ro[Int.toNat n5]? = some (eoSeg y) := by
   rw [b7, hn5]; exact mark_get (by rw [mkSegS_len, List.length_take]; omega)
  obtain ⟨g6, d5, c0, c5⟩ := y
  obtain ⟨b0, f2⟩ := nm (c5.map eoItem)
  have u1 := rlen_map hA f2
  have hzro : ro[Int.toNat n5]? = some [.int .i64 g6, .int .i64 d5, .int .i64 c0, .ow 9 b0] := by subst f2; exact c3
  have f6 := cnItemS_nn c5
  have cce : ceSeg (⟨g6, d5, c0, c5⟩ : GSeg) = 1 + 1 + 1 + cnItemS c5 := rfl
  obtain ⟨r4, hr4, e4⟩ : ∃ r : Int, r = 0 ∧ 0 ≤ r := ⟨0, rfl, by decide⟩
  obtain ⟨r3, hr3, e3⟩ : ∃ r : Int, r = cnItemS c5 + r4 ∧ 0 ≤ r := ⟨_, rfl, nn_add f6 e4⟩
  obtain ⟨r2, hr2, e2⟩ : ∃ r : Int, r = 1 + r3 ∧ 0 ≤ r := ⟨_, rfl, nn_add (by decide) e3⟩
  obtain ⟨r1, hr1, e1⟩ : ∃ r : Int, r = 1 + r2 ∧ 0 ≤ r := ⟨_, rfl, nn_add (by decide) e2⟩
  obtain ⟨r0, hr0, e0⟩ : ∃ r : Int, r = 1 + r1 ∧ 0 ≤ r := ⟨_, rfl, nn_add (by decide) e1⟩
  have p0 : 0 ≤ kk := by clear hr4 e4 hr3 e3 hr2 e2 hr1 e1 hr0 e0; omega
  have hrce : r0 = ceSeg (⟨g6, d5, c0, c5⟩ : GSeg) := by subst hr4 hr3 hr2 hr1 hr0; rw [cce]; omega
  have q0 : kk + r0 ≤ 1099511627776 ∧ kk + r0 = kk + r0 := ⟨by clear hr4 e4 hr3 e3 hr2 e2 hr1 e1 hr0 e0; omega, rfl⟩
  have b1 : n5 < (List.length x : Int) := by clear hr4 e4 hr3 e3 hr2 e2 hr1 e1 hr0 e0; omega
  have hi1 : i + 1 ≤ List.length x := by clear hr4 e4 hr3 e3 hr2 e2 hr1 e1 hr0 e0; omega
  have d0 : A.num .add .i64 n5 1 = ((i + 1 : Nat) : Int) := by
   clear hr4 e4 hr3 e3 hr2 e2 hr1 e1 hr0 e0; rw [add_i64 hA (by omega) (by omega)]; omega
  have hlen : i = List.length (mkSegS k (x.take i)) := by rw [mkSegS_len, List.length_take]; clear hr4 e4 hr3 e3 hr2 e2 hr1 e1 hr0 e0; omega
  have hdec : List.length x - (i + 1) < List.length x - i := by clear hr4 e4 hr3 e3 hr2 e2 hr1 e1 hr0 e0; omega
  refine gB (ra hA 3 (by cbv) ?_)
  have d3 : n5 < (List.length ro : Int) := by rw [hlro]; exact b1
  refine ops_step rfl rfl (idx_own rfl rfl rfl rfl rfl rfl h05 d3 rfl) ?_
  refine ra hA 1 (by cbv) ?_
  obtain ⟨o3, ho3⟩ := nm (ro.set (Int.toNat n5) [.int .i64 kk, .int .i64 d5, .int .i64 c0, .ow 9 b0])
  have go3 : o3 = ro.set (Int.toNat n5) [.int .i64 kk, .int .i64 d5, .int .i64 c0, .ow 9 b0] := ho3
  have c7 : (List.length o3 : Int) = List.length x := by rw [go3, List.length_set]; exact hlro
  have c8 : o3[(Int.toNat n5)]? = some [.int .i64 kk, .int .i64 d5, .int .i64 c0, .ow 9 b0] := by rw [go3]; exact set_self hzro
  have d2 : o3 = ro.set (Int.toNat n5) [.int .i64 kk, .int .i64 d5, .int .i64 c0, .ow 9 b0] := go3
  refine ops_step rfl rfl (sto_arr (r := [.int .i64 g6, .int .i64 d5, .int .i64 c0, .ow 9 b0]) (cs := [.int .i64 kk]) rfl rfl rfl rfl rfl ⟨_, _, rfl⟩ rfl rfl hzro rfl ho3) ?_
  refine oz ?_
  refine gs (gB (ra hA 1 (by cbv) ?_))
  obtain ⟨k4, wk4, d4, pk4, qk4⟩ := add_one hA p0 q0 hr0 e1
  refine ops_step rfl rfl (int_add hA rfl rfl rfl d4) ?_
  refine ra hA 1 (by cbv) (oz ?_)
  refine gs (gB (ra hA 3 (by cbv) ?_))
  have g4 : n5 < (List.length o3 : Int) := by rw [c7]; exact b1
  refine ops_step rfl rfl (idx_own rfl rfl rfl rfl rfl rfl h05 g4 rfl) ?_
  refine ra hA 1 (by cbv) ?_
  obtain ⟨o6, ho6⟩ := nm (o3.set (Int.toNat n5) [.int .i64 kk, .int .i64 k4, .int .i64 c0, .ow 9 b0])
  have go6 : o6 = o3.set (Int.toNat n5) [.int .i64 kk, .int .i64 k4, .int .i64 c0, .ow 9 b0] := ho6
  have f3 : (List.length o6 : Int) = List.length x := by rw [go6, List.length_set]; exact c7
  have f4 : o6[(Int.toNat n5)]? = some [.int .i64 kk, .int .i64 k4, .int .i64 c0, .ow 9 b0] := by rw [go6]; exact set_self c8
  have i1 : o6 = ro.set (Int.toNat n5) [.int .i64 kk, .int .i64 k4, .int .i64 c0, .ow 9 b0] := by rw [go6, d2, List.set_set]
  refine ops_step rfl rfl (sto_arr (r := [.int .i64 kk, .int .i64 d5, .int .i64 c0, .ow 9 b0]) (cs := [.int .i64 k4]) rfl rfl rfl rfl rfl ⟨_, _, rfl⟩ rfl rfl c8 rfl ho6) ?_
  refine oz ?_
  refine gs (gB (ra hA 1 (by cbv) ?_))
  obtain ⟨k7, wk7, g9, pk7, qk7⟩ := add_one hA pk4 qk4 hr1 e2
  refine ops_step rfl rfl (int_add hA rfl rfl rfl g9) ?_
  refine ra hA 1 (by cbv) (oz ?_)
  refine gs (gB (ra hA 3 (by cbv) ?_))
  have k0 : n5 < (List.length o6 : Int) := by rw [f3]; exact b1
  refine ops_step rfl rfl (idx_own rfl rfl rfl rfl rfl rfl h05 k0 rfl) ?_
  refine ra hA 1 (by cbv) ?_
  obtain ⟨o9, ho9⟩ := nm (o6.set (Int.toNat n5) [.int .i64 kk, .int .i64 k4, .int .i64 k7, .ow 9 b0])
  have go9 : o9 = o6.set (Int.toNat n5) [.int .i64 kk, .int .i64 k4, .int .i64 k7, .ow 9 b0] := ho9
  have i0 : (List.length o9 : Int) = List.length x := by rw [go9, List.length_set]; exact f3
  have i2 : o9[(Int.toNat n5)]? = some [.int .i64 kk, .int .i64 k4, .int .i64 k7, .ow 9 b0] := by rw [go9]; exact set_self f4
  have j4 : o9 = ro.set (Int.toNat n5) [.int .i64 kk, .int .i64 k4, .int .i64 k7, .ow 9 b0] := by rw [go9, i1, List.set_set]
  refine ops_step rfl rfl (sto_arr (r := [.int .i64 kk, .int .i64 k4, .int .i64 c0, .ow 9 b0]) (cs := [.int .i64 k7]) rfl rfl rfl rfl rfl ⟨_, _, rfl⟩ rfl rfl f4 rfl ho9) ?_
  refine oz ?_
  refine gs (gB (ra hA 1 (by cbv) ?_))
  obtain ⟨k10, j9, i5, i6, i8⟩ := add_one hA pk7 qk7 hr2 e3
  refine ops_step rfl rfl (int_add hA rfl rfl rfl i5) ?_
  refine ra hA 1 (by cbv) (oz ?_)
  refine gB (ra hA 2 (by cbv) ?_)
  have i9 : n5 < (List.length o9 : Int) := by rw [i0]; exact b1
  refine ops_step rfl rfl (idx_own rfl rfl rfl rfl rfl rfl h05 i9 rfl) ?_
  refine ra hA 1 (by cbv) ?_
  refine ops_nestR rfl rfl rfl rfl rfl rfl rfl i2 rfl rfl (fun w13 o12 i3 => ?_)
  have f7 : o12 = o9.set (Int.toNat n5) [.int .i64 kk, .int .i64 k4, .int .i64 k7, .raw w13] := i3
  have g3 : (List.length o12 : Int) = List.length x := by rw [f7, List.length_set]; exact i0
  have g0 : o12[(Int.toNat n5)]? = some [.int .i64 kk, .int .i64 k4, .int .i64 k7, .raw w13] := by rw [f7]; exact set_self i2
  have j1 : o12 = ro.set (Int.toNat n5) [.int .i64 kk, .int .i64 k4, .int .i64 k7, .raw w13] := by rw [f7, j4, List.set_set]
  refine ra hA 1 (by cbv) ?_
  obtain ⟨d9, m14, j2, o7, s6⟩ : ∃ (d9 : RR) (m14 : Int), d9 = List.map eoItem (mkItemS k10 c5) ∧ m14 = k10 + cnItemS c5 ∧ RealM Tryz.prog 158 [.ow 9 b0, .int .i64 k10] [.ow 9 d9, .int .i64 k10] (.int .i64 m14) := ⟨_, _, rfl, rfl, by subst f2; exact m_laws_markItemS A hA c5 k10 i6 (le_cn i8 hr3 e4)⟩
  have x2 := rlen_map hA j2
  have s8 := add_cn o7 i6 i8 hr3 f6
  refine ops_callM rfl (by cbv) (by cbv) (by cbv) s6 rfl (by cbv) ?_
  refine ra hA 1 (by cbv) ?_
  obtain ⟨o15, g5⟩ := nm (o12.set (Int.toNat n5) [.int .i64 kk, .int .i64 k4, .int .i64 k7, .ow 9 d9])
  have f9 : o15 = o12.set (Int.toNat n5) [.int .i64 kk, .int .i64 k4, .int .i64 k7, .ow 9 d9] := g5
  have i7 : (List.length o15 : Int) = List.length x := by rw [f9, List.length_set]; exact g3
  have i4 : o15[(Int.toNat n5)]? = some [.int .i64 kk, .int .i64 k4, .int .i64 k7, .ow 9 d9] := by rw [f9]; exact set_self g0
  have j0 : o15 = ro.set (Int.toNat n5) [.int .i64 kk, .int .i64 k4, .int .i64 k7, .ow 9 d9] := by rw [f9, j1, List.set_set]
  refine ops_doneB (tweak_backR (D := 37) (d := 1000000000) (i := (Int.toNat n5)) (j := 3) rfl rfl rfl g0 rfl (by decide) g5 rfl) ?_
  refine gB (ra hA 1 (by cbv) (ra hA 1 (by cbv) (ra hA 1 (by cbv) (oz ?_))))
  refine ⟨(S118_1 hv m14 (A.num .add .i64 n5 1) o15), List.length x - (i + 1), ?_, by cbv, i + 1, o15, (A.num .add .i64 n5 1), m14, rfl, ?_, rfl⟩
  ·
   exact hdec
  ·
   have hrow : ([.int .i64 kk, .int .i64 k4, .int .i64 k7, .ow 9 d9] : List PV) = eoSeg (meSeg kk (⟨g6, d5, c0, c5⟩ : GSeg)) := by
    subst wk4 wk7 j9 o7
    show _ = ([_, _, _, _] : List PV)
    exact congr (congrArg List.cons (congrArg (PV.int .i64) rfl)) (congr (congrArg List.cons (congrArg (PV.int .i64) rfl)) (congr (congrArg List.cons (congrArg (PV.int .i64) rfl)) (congr (congrArg List.cons (congrArg (PV.ow 9) j2)) (rfl))))
   refine ⟨d0, hi1, fin_k s8.2 hr4 hrce hkk cat, ?_⟩
   rw [j0, hrow, b7, hn5, mkSegS_at k hyi, ← hkk]
   exact mark_set (hlen.symm.trans (Int.toNat_natCast i).symm)
 ·
  have ec1 : (A.rlen ro) ≤ n5 := lss_f hA c1
  refine go_exit ⟨fun _ => ?_, fun h => absurd rfl h⟩
  refine gs (gB (ra hA 2 (by cbv) (oz ?_)))
  refine go_ret ⟨⟨rfl, trivial⟩, Eq.trans (b := some [.ow 4 ro, .int .i64 k]) (by cbv) ?_, _, by cbv, ?_⟩
  ·
   rw [hro, List.take_of_length_le (by omega), List.drop_of_length_le (by omega), List.append_nil]
  ·
   show _ = (PV.int .i64 kk)
   refine congrArg (PV.int .i64) ?_
   rw [hkk, List.take_of_length_le (by omega)]
def S97_1 (hv : Nat → Value) (p0 : Int) (p1 : Int) (p2 : RR) : St := { sl := [.own 1000000000, .int .i64 p0, .bad, .bad, .bad, .int .i64 p1, .bad, .bad, .bad, .bad, .bad, .bad, .bad, .bad, .bad, .bad, .bad, .bad, .bad, .bad, .bad, .bad, .bad, .bad, .bad, .bad, .bad, .bad, .bad, .bad, .bad, .bad, .bad, .bad, .bad, .bad, .bad, .bad, .bad, .bad, .bad, .bad, .bad, .bad, .bad, .bad, .bad, .bad, .bad, .bad], bl := [(1000000000, ⟨.arr, 5, p2⟩)], hd := [(1000000000, hv 1000000000)] }
theorem m_laws_markBoxS (A : Alg) (hA : A = std) (x : List GBox) (k : Int) (h0 : 0 ≤ k) (h1 : k + cnBoxS x ≤ 1099511627776) : RealM Tryz.prog 97 [.ow 5 (List.map eoBox x), .int .i64 k] [.ow 5 (List.map eoBox (mkBoxS k x)), .int .i64 k] (.int .i64 (k + cnBoxS x)) := by
 obtain ⟨x_r, b3⟩ := nm (x.map eoBox)
 have f8 := rlen_map hA b3
 refine realM_args (args1 := [.ow 5 x_r, .int .i64 k]) (by subst b3; rfl) rfl ?_
 have h2 : (List.length x : Int) ≤ 1099511627776 := by have := cnBoxS_ge x; omega
 refine realM tyOk Tryz.func97 (by kernel_rfl) (afunM_of rfl (by cbv) (fun hv => ?_))
 refine gs (gB (ra hA 1 (by cbv) (oz ?_)))
 refine gs (gs (gB (ra hA 1 (by cbv) (oz ?_))))
 refine go_block ?_
 refine go_loopE (fun σ m => ∃ (i : Nat) (ro : RR) (n5 : Int) (kk : Int), σ = (S97_1 hv kk n5 ro) ∧ (n5 = (i : Int) ∧ i ≤ List.length x ∧ kk = k + cnBoxS (x.take i) ∧ ro = List.map eoBox (mkBoxS k (x.take i) ++ x.drop i)) ∧ m = List.length x - i) _ [] [0, 1, 5] [1000000000] (S97_1 hv k 0 x_r) rfl (by cbv) ⟨0, x_r, 0, k, rfl, ?_, rfl⟩ (fun σ m hI => ?_)
 ·
  exact ⟨rfl, Nat.zero_le _, by simp [cnBoxS], b3⟩
 obtain ⟨i, ro, n5, kk, rfl, ⟨hn5, hi, hkk, hro⟩, rfl⟩ := hI
 have hlro : (List.length ro : Int) = List.length x := by
  rw [hro]; simp only [List.length_map, List.length_append, mkBoxS_len, List.length_take, List.length_drop]; omega
 have lro : A.rlen ro = (List.length x : Int) := by
  rw [rlen_map hA hro]; simp only [List.length_append, mkBoxS_len, List.length_take, List.length_drop]; omega
 refine gs (gs (gB (ra hA 4 (by cbv) (oz ?_))))
 refine go_cond rfl (fun c1 => ?_) (fun c1 => ?_)
 ·
  have ec1 : n5 < (A.rlen ro) := lss_t hA c1
  refine gk (gs ?_)
  refine go_block ?_
  refine gs ?_
  have h05 : (0 : Int) ≤ n5 := by omega
  have hlt : Int.toNat n5 < List.length x := by omega
  obtain ⟨y, hy⟩ : ∃ y, x[Int.toNat n5]? = some y := ⟨_, List.getElem?_eq_getElem hlt⟩
  have hyi : x[i]? = some y := by have h := hy; rw [hn5] at h; exact h
  have cat := cnBoxS_at hyi
  have cle := cnBoxS_le x (i + 1)
  have cnn := cnBoxS_nn (x.take i)
  have cce : ceBox y = _ := rfl
  have b7 : ro = List.map eoBox (mkBoxS k (x.take i) ++ y :: x.drop (i + 1)) := by
   rw [hro, ← drop_at hyi]
  have c3 : ro[Int.toNat n5]? = some (eoBox y) := by
   rw [b7, hn5]; exact mark_get (by rw [mkBoxS_len, List.length_take]; omega)
  obtain ⟨f0, c9, b8, b4, c4⟩ := y
  obtain ⟨a5, f1⟩ := nm (c4.map eoMail)
  have u3 := rlen_map hA f1
  have hzro : ro[Int.toNat n5]? = some [.int .i64 f0, .str c9, .str b8, .int .i64 b4, .ow 3 a5] := by subst f1; exact c3
  have f5 := cnMailS_nn c4
  have cce : ceBox (⟨f0, c9, b8, b4, c4⟩ : GBox) = 1 + 1 + 1 + 1 + cnMailS c4 := rfl
  obtain ⟨r5, hr5, e5⟩ : ∃ r : Int, r = 0 ∧ 0 ≤ r := ⟨0, rfl, by decide⟩
  obtain ⟨r4, hr4, e4⟩ : ∃ r : Int, r = cnMailS c4 + r5 ∧ 0 ≤ r := ⟨_, rfl, nn_add f5 e5⟩
  obtain ⟨r3, hr3, e3⟩ : ∃ r : Int, r = 1 + r4 ∧ 0 ≤ r := ⟨_, rfl, nn_add (by decide) e4⟩
  obtain ⟨r2, hr2, e2⟩ : ∃ r : Int, r = 1 + r3 ∧ 0 ≤ r := ⟨_, rfl, nn_add (by decide) e3⟩
  obtain ⟨r1, hr1, e1⟩ : ∃ r : Int, r = 1 + r2 ∧ 0 ≤ r := ⟨_, rfl, nn_add (by decide) e2⟩
  obtain ⟨r0, hr0, e0⟩ : ∃ r : Int, r = 1 + r1 ∧ 0 ≤ r := ⟨_, rfl, nn_add (by decide) e1⟩
  have p0 : 0 ≤ kk := by clear hr5 e5 hr4 e4 hr3 e3 hr2 e2 hr1 e1 hr0 e0; omega
  have hrce : r0 = ceBox (⟨f0, c9, b8, b4, c4⟩ : GBox) := by subst hr5 hr4 hr3 hr2 hr1 hr0; rw [cce]; omega
  have q0 : kk + r0 ≤ 1099511627776 ∧ kk + r0 = kk + r0 := ⟨by clear hr5 e5 hr4 e4 hr3 e3 hr2 e2 hr1 e1 hr0 e0; omega, rfl⟩
  have b1 : n5 < (List.length x : Int) := by clear hr5 e5 hr4 e4 hr3 e3 hr2 e2 hr1 e1 hr0 e0; omega
  have hi1 : i + 1 ≤ List.length x := by clear hr5 e5 hr4 e4 hr3 e3 hr2 e2 hr1 e1 hr0 e0; omega
  have d0 : A.num .add .i64 n5 1 = ((i + 1 : Nat) : Int) := by
   clear hr5 e5 hr4 e4 hr3 e3 hr2 e2 hr1 e1 hr0 e0; rw [add_i64 hA (by omega) (by omega)]; omega
  have hlen : i = List.length (mkBoxS k (x.take i)) := by rw [mkBoxS_len, List.length_take]; clear hr5 e5 hr4 e4 hr3 e3 hr2 e2 hr1 e1 hr0 e0; omega
  have hdec : List.length x - (i + 1) < List.length x - i := by clear hr5 e5 hr4 e4 hr3 e3 hr2 e2 hr1 e1 hr0 e0; omega
  refine gB (ra hA 3 (by cbv) ?_)
  have d3 : n5 < (List.length ro : Int) := by rw [hlro]; exact b1
  refine ops_step rfl rfl (idx_own rfl rfl rfl rfl rfl rfl h05 d3 rfl) ?_
  refine ra hA 1 (by cbv) ?_
  obtain ⟨o3, ho3⟩ := nm (ro.set (Int.toNat n5) [.int .i64 kk, .str c9, .str b8, .int .i64 b4, .ow 3 a5])
  have go3 : o3 = ro.set (Int.toNat n5) [.int .i64 kk, .str c9, .str b8, .int .i64 b4, .ow 3 a5] := ho3
  have c7 : (List.length o3 : Int) = List.length x := by rw [go3, List.length_set]; exact hlro
  have c8 : o3[(Int.toNat n5)]? = some [.int .i64 kk, .str c9, .str b8, .int .i64 b4, .ow 3 a5] := by rw [go3]; exact set_self hzro
  have d2 : o3 = ro.set (Int.toNat n5) [.int .i64 kk, .str c9, .str b8, .int .i64 b4, .ow 3 a5] := go3
  refine ops_step rfl rfl (sto_arr (r := [.int .i64 f0, .str c9, .str b8, .int .i64 b4, .ow 3 a5]) (cs := [.int .i64 kk]) rfl rfl rfl rfl rfl ⟨_, _, rfl⟩ rfl rfl hzro rfl ho3) ?_
  refine oz ?_
  refine gs (gB (ra hA 1 (by cbv) ?_))
  obtain ⟨k4, wk4, d4, pk4, qk4⟩ := add_one hA p0 q0 hr0 e1
  refine ops_step rfl rfl (int_add hA rfl rfl rfl d4) ?_
  refine ra hA 1 (by cbv) (oz ?_)
  refine gs (gB (ra hA 3 (by cbv) ?_))
  obtain ⟨a7, g7, hc6⟩ : ∃ (a7 : ByteArray), a7 = (mt k4) ∧ Real Tryz.prog 71 [.int .i64 k4] (.str a7) := ⟨_, rfl, by exact r_laws_markText A hA k4 pk4 (le_k qk4 e1)⟩
  refine ops_callV rfl rfl (by cbv) (by cbv) hc6 (.inr rfl) (by cbv) ?_
  have l2 : n5 < (List.length o3 : Int) := by rw [c7]; exact b1
  refine ops_step rfl rfl (idx_own rfl rfl rfl rfl rfl rfl h05 l2 rfl) ?_
  refine ra hA 1 (by cbv) ?_
  obtain ⟨o8, ho8⟩ := nm (o3.set (Int.toNat n5) [.int .i64 kk, .str a7, .str b8, .int .i64 b4, .ow 3 a5])
  have go8 : o8 = o3.set (Int.toNat n5) [.int .i64 kk, .str a7, .str b8, .int .i64 b4, .ow 3 a5] := ho8
  have k5 : (List.length o8 : Int) = List.length x := by rw [go8, List.length_set]; exact c7
  have j8 : o8[(Int.toNat n5)]? = some [.int .i64 kk, .str a7, .str b8, .int .i64 b4, .ow 3 a5] := by rw [go8]; exact set_self c8
  have j7 : o8 = ro.set (Int.toNat n5) [.int .i64 kk, .str a7, .str b8, .int .i64 b4, .ow 3 a5] := by rw [go8, d2, List.set_set]
  refine ops_step rfl rfl (sto_arr (r := [.int .i64 kk, .str c9, .str b8, .int .i64 b4, .ow 3 a5]) (cs := [.str a7]) rfl rfl rfl rfl rfl ⟨_, _, rfl⟩ rfl rfl c8 rfl ho8) ?_
  refine oz ?_
  refine gs (gB (ra hA 1 (by cbv) ?_))
  obtain ⟨k9, wk9, k1, pk9, qk9⟩ := add_one hA pk4 qk4 hr1 e2
  refine ops_step rfl rfl (int_add hA rfl rfl rfl k1) ?_
  refine ra hA 1 (by cbv) (oz ?_)
  refine gs (gB (ra hA 3 (by cbv) ?_))
  obtain ⟨b2, m9, x0⟩ : ∃ (b2 : ByteArray), b2 = (mt k9) ∧ Real Tryz.prog 71 [.int .i64 k9] (.str b2) := ⟨_, rfl, by exact r_laws_markText A hA k9 pk9 (le_k qk9 e2)⟩
  refine ops_callV rfl rfl (by cbv) (by cbv) x0 (.inr rfl) (by cbv) ?_
  have t5 : n5 < (List.length o8 : Int) := by rw [k5]; exact b1
  refine ops_step rfl rfl (idx_own rfl rfl rfl rfl rfl rfl h05 t5 rfl) ?_
  refine ra hA 1 (by cbv) ?_
  obtain ⟨o13, n9⟩ := nm (o8.set (Int.toNat n5) [.int .i64 kk, .str a7, .str b2, .int .i64 b4, .ow 3 a5])
  have j6 : o13 = o8.set (Int.toNat n5) [.int .i64 kk, .str a7, .str b2, .int .i64 b4, .ow 3 a5] := n9
  have m4 : (List.length o13 : Int) = List.length x := by rw [j6, List.length_set]; exact k5
  have m5 : o13[(Int.toNat n5)]? = some [.int .i64 kk, .str a7, .str b2, .int .i64 b4, .ow 3 a5] := by rw [j6]; exact set_self j8
  have u4 : o13 = ro.set (Int.toNat n5) [.int .i64 kk, .str a7, .str b2, .int .i64 b4, .ow 3 a5] := by rw [j6, j7, List.set_set]
  refine ops_step rfl rfl (sto_arr (r := [.int .i64 kk, .str a7, .str b8, .int .i64 b4, .ow 3 a5]) (cs := [.str b2]) rfl rfl rfl rfl rfl ⟨_, _, rfl⟩ rfl rfl j8 rfl n9) ?_
  refine oz ?_
  refine gs (gB (ra hA 1 (by cbv) ?_))
  obtain ⟨k14, v4, u2, v8, u9⟩ := add_one hA pk9 qk9 hr2 e3
  refine ops_step rfl rfl (int_add hA rfl rfl rfl u2) ?_
  refine ra hA 1 (by cbv) (oz ?_)
  refine gs (gB (ra hA 3 (by cbv) ?_))
  have s2 : n5 < (List.length o13 : Int) := by rw [m4]; exact b1
  refine ops_step rfl rfl (idx_own rfl rfl rfl rfl rfl rfl h05 s2 rfl) ?_
  refine ra hA 1 (by cbv) ?_
  obtain ⟨o16, n0⟩ := nm (o13.set (Int.toNat n5) [.int .i64 kk, .str a7, .str b2, .int .i64 k14, .ow 3 a5])
  have l3 : o16 = o13.set (Int.toNat n5) [.int .i64 kk, .str a7, .str b2, .int .i64 k14, .ow 3 a5] := n0
  have m0 : (List.length o16 : Int) = List.length x := by rw [l3, List.length_set]; exact m4
  have l6 : o16[(Int.toNat n5)]? = some [.int .i64 kk, .str a7, .str b2, .int .i64 k14, .ow 3 a5] := by rw [l3]; exact set_self m5
  have t7 : o16 = ro.set (Int.toNat n5) [.int .i64 kk, .str a7, .str b2, .int .i64 k14, .ow 3 a5] := by rw [l3, u4, List.set_set]
  refine ops_step rfl rfl (sto_arr (r := [.int .i64 kk, .str a7, .str b2, .int .i64 b4, .ow 3 a5]) (cs := [.int .i64 k14]) rfl rfl rfl rfl rfl ⟨_, _, rfl⟩ rfl rfl m5 rfl n0) ?_
  refine oz ?_
  refine gs (gB (ra hA 1 (by cbv) ?_))
  obtain ⟨k17, w9, t4, p5, o4⟩ := add_one hA v8 u9 hr3 e4
  refine ops_step rfl rfl (int_add hA rfl rfl rfl t4) ?_
  refine ra hA 1 (by cbv) (oz ?_)
  refine gB (ra hA 2 (by cbv) ?_)
  have s7 : n5 < (List.length o16 : Int) := by rw [m0]; exact b1
  refine ops_step rfl rfl (idx_own rfl rfl rfl rfl rfl rfl h05 s7 rfl) ?_
  refine ra hA 1 (by cbv) ?_
  refine ops_nestR rfl rfl rfl rfl rfl rfl rfl l6 rfl rfl (fun w20 o19 w1 => ?_)
  have l1 : o19 = o16.set (Int.toNat n5) [.int .i64 kk, .str a7, .str b2, .int .i64 k14, .raw w20] := w1
  have q8 : (List.length o19 : Int) = List.length x := by rw [l1, List.length_set]; exact m0
  have m3 : o19[(Int.toNat n5)]? = some [.int .i64 kk, .str a7, .str b2, .int .i64 k14, .raw w20] := by rw [l1]; exact set_self l6
  have u0 : o19 = ro.set (Int.toNat n5) [.int .i64 kk, .str a7, .str b2, .int .i64 k14, .raw w20] := by rw [l1, t7, List.set_set]
  refine ra hA 1 (by cbv) ?_
  obtain ⟨d8, m21, j3, p6, q9⟩ : ∃ (d8 : RR) (m21 : Int), d8 = List.map eoMail (mkMailS k17 c4) ∧ m21 = k17 + cnMailS c4 ∧ RealM Tryz.prog 73 [.ow 3 a5, .int .i64 k17] [.ow 3 d8, .int .i64 k17] (.int .i64 m21) := ⟨_, _, rfl, rfl, by subst f1; exact m_laws_markMailS A hA c4 k17 p5 (le_cn o4 hr4 e5)⟩
  have x3 := rlen_map hA j3
  have q3 := add_cn p6 p5 o4 hr4 f5
  refine ops_callM rfl (by cbv) (by cbv) (by cbv) q9 rfl (by cbv) ?_
  refine ra hA 1 (by cbv) ?_
  obtain ⟨o22, n1⟩ := nm (o19.set (Int.toNat n5) [.int .i64 kk, .str a7, .str b2, .int .i64 k14, .ow 3 d8])
  have l4 : o22 = o19.set (Int.toNat n5) [.int .i64 kk, .str a7, .str b2, .int .i64 k14, .ow 3 d8] := n1
  have x4 : (List.length o22 : Int) = List.length x := by rw [l4, List.length_set]; exact q8
  have x5 : o22[(Int.toNat n5)]? = some [.int .i64 kk, .str a7, .str b2, .int .i64 k14, .ow 3 d8] := by rw [l4]; exact set_self m3
  have q2 : o22 = ro.set (Int.toNat n5) [.int .i64 kk, .str a7, .str b2, .int .i64 k14, .ow 3 d8] := by rw [l4, u0, List.set_set]
  refine ops_doneB (tweak_backR (D := 46) (d := 1000000000) (i := (Int.toNat n5)) (j := 4) rfl rfl rfl m3 rfl (by decide) n1 rfl) ?_
  refine gB (ra hA 1 (by cbv) (ra hA 1 (by cbv) (ra hA 1 (by cbv) (oz ?_))))
  refine ⟨(S97_1 hv m21 (A.num .add .i64 n5 1) o22), List.length x - (i + 1), ?_, by cbv, i + 1, o22, (A.num .add .i64 n5 1), m21, rfl, ?_, rfl⟩
  ·
   exact hdec
  ·
   have hrow : ([.int .i64 kk, .str a7, .str b2, .int .i64 k14, .ow 3 d8] : List PV) = eoBox (meBox kk (⟨f0, c9, b8, b4, c4⟩ : GBox)) := by
    subst wk4 wk9 v4 w9 p6
    show _ = ([_, _, _, _, _] : List PV)
    exact congr (congrArg List.cons (congrArg (PV.int .i64) rfl)) (congr (congrArg List.cons (congrArg PV.str g7)) (congr (congrArg List.cons (congrArg PV.str m9)) (congr (congrArg List.cons (congrArg (PV.int .i64) rfl)) (congr (congrArg List.cons (congrArg (PV.ow 3) j3)) (rfl)))))
   refine ⟨d0, hi1, fin_k q3.2 hr5 hrce hkk cat, ?_⟩
   rw [q2, hrow, b7, hn5, mkBoxS_at k hyi, ← hkk]
   exact mark_set (hlen.symm.trans (Int.toNat_natCast i).symm)
 ·
  have ec1 : (A.rlen ro) ≤ n5 := lss_f hA c1
  refine go_exit ⟨fun _ => ?_, fun h => absurd rfl h⟩
  refine gs (gB (ra hA 2 (by cbv) (oz ?_)))
  refine go_ret ⟨⟨rfl, trivial⟩, Eq.trans (b := some [.ow 5 ro, .int .i64 k]) (by cbv) ?_, _, by cbv, ?_⟩
  ·
   rw [hro, List.take_of_length_le (by omega), List.drop_of_length_le (by omega), List.append_nil]
  ·
   show _ = (PV.int .i64 kk)
   refine congrArg (PV.int .i64) ?_
   rw [hkk, List.take_of_length_le (by omega)]
end Go.Av

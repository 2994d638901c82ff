/- Walks: marks. -/
import Derived.Test.YtjbokkoiicoahaaGreatTm
namespace Go.Av
open Go Go.Proofs
set_option maxRecDepth 100000
set_option maxHeartbeats 4000000
set_option linter.unusedVariables false
set_option linter.unusedSimpArgs false
theorem mb_eq {A : Alg} (hA : A = std) {a b : Int} (h : a = b) : A.cmp .eql (A.num .rem .i64 a 3) 0 = mb b := by subst hA; subst h; rfl
theorem so_l {α : Type} {u o : List α} {i : Nat} {c : α} {n : Int} (h : u = o.set i c) (hl : (o.length : Int) = n) : (u.length : Int) = n := by rw [h, List.length_set]; exact hl
theorem so_z {α : Type} {u o : List α} {i : Nat} {c x : α} (h : u = o.set i c) (hz : o[i]? = some x) : u[i]? = some c := by rw [h]; exact set_self hz
theorem so_f {α : Type} {u o r : List α} {i : Nat} {c d : α} (h : u = o.set i c) (hf : o = r.set i d) : u = r.set i c := by rw [h, hf, List.set_set]
theorem add_one {A : Alg} (hA : A = std) {k r s t : Int} (p : 0 ≤ k) (q : k + r ≤ 1099511627776 ∧ k + r = t) (hr : r = 1 + s) (e : 0 ≤ s) : ∃ v : Int, v = k + 1 ∧ A.num .add .i64 k 1 = v ∧ 0 ≤ v ∧ v + s ≤ 1099511627776 ∧ v + s = t := ⟨k + 1, rfl, add_i64 hA (by omega) (by omega), by omega, by omega, by omega⟩
theorem add_cn {k v c r s t : Int} (hv : v = k + c) (p : 0 ≤ k) (q : k + r ≤ 1099511627776 ∧ k + r = t) (hr : r = c + s) (n : 0 ≤ c) : 0 ≤ v ∧ v + s ≤ 1099511627776 ∧ v + s = t := ⟨by omega, by omega, by omega⟩
theorem le_cn {k c r s t : Int} (q : k + r ≤ 1099511627776 ∧ k + r = t) (hr : r = c + s) (e : 0 ≤ s) : k + c ≤ 1099511627776 := by omega
theorem le_k {k r t : Int} (q : k + r ≤ 1099511627776 ∧ k + r = t) (e : 0 ≤ r) : k ≤ 1099511627776 := by omega
theorem nn_add {a b : Int} (h : 0 ≤ a) (g : 0 ≤ b) : 0 ≤ a + b := by omega
theorem fin_k {kn rn kk r0 k c c' ce : Int} (h : kn + rn ≤ 1099511627776 ∧ kn + rn = kk + r0) (hn : rn = 0) (h0 : r0 = ce) (hkk : kk = k + c) (cat : c' = c + ce) : kn = k + c' := by omega
theorem tdiv10 {k : Int} (h : 0 ≤ k) : k.tdiv 10 = k / 10 := Int.tdiv_eq_ediv_of_nonneg h
theorem quo_i64 {A : Alg} (hA : A = std) {k : Int} (h1 : 0 ≤ k) (h2 : k ≤ 1099511627776) : A.num .quo .i64 k 10 = k / 10 := by
 subst hA
 have h : IntKind.i64.wrap (k.tdiv 10) = k.tdiv 10 := by
  rw [tdiv10 h1]; exact wrap_id (by omega) (by omega)
 rw [← tdiv10 h1]; exact h
theorem dig_eq {A : Alg} (hA : A = std) (k : Int) : A.ofB [[.int .u8 (A.cnv .u8 (A.num .add .i64 48 (A.num .rem .i64 k 10)))]] = dig k := by subst hA; rfl
theorem dig_size (k : Int) : (dig k).size = 1 := by simp [dig, strOfNums_size]
theorem mtGo_pos {k : Int} (out : ByteArray) (h : 0 < k) : mtGo k out = mtGo (k / 10) (dig k ++ out) := by rw [mtGo, dif_pos h, tdiv10 (by omega)]
theorem mtGo_zero {k : Int} (out : ByteArray) (h : k ≤ 0) : mtGo k out = out := by rw [mtGo, dif_neg (by omega)]
def S71_1 (p0 : Int) (p1 : ByteArray) : St := { sl := [.ii p0, .bad, .bad, .str p1, .bad, .bad, .bad, .bad, .bad, .bad, .bad, .bad, .bad, .bad, .bad, .bad, .bad, .bad, .bad, .bad], bl := [] }
theorem r_laws_markText (A : Alg) (hA : A = std) (k : Int) (h0 : 0 ≤ k) (h1 : k ≤ 1099511627776) : Real Tryz.prog 71 [.ii k] (.str (mt k)) := by
 refine real_args (args' := [.ii k]) (by rfl) ?_
 refine real tyOk Tryz.func71 (by kernel_rfl) (afun_of rfl ?_)
 refine gx hA 1 ?_
 refine gs (gx hA 2 ?_)
 refine go_cond rfl (fun c1 => ?_) (fun c1 => ?_)
 ·
  have ec1 : k ≤ 0 := leq_t hA c1
  refine gx hA 1 ?_
  refine go_ret ⟨_, by cbv, ?_⟩
  show _ = (PV.str (ByteArray.mk #[109, 48]))
  refine congrArg PV.str ?_
  rw [mt, if_pos (by omega)]
 have ec1 : 0 < k := leq_f hA c1
 refine gk (gx hA 1 ?_)
 refine gs ?_
 refine go_block ?_
 refine go_loopE (fun σ m => ∃ (kk : Int) (out : ByteArray), σ = (S71_1 kk out) ∧ (0 ≤ kk ∧ kk ≤ 1099511627776 ∧ (ByteArray.size out : Int) + kk ≤ 1099511627776 ∧ mtGo k (ByteArray.mk #[]) = mtGo kk out) ∧ m = Int.toNat kk) _ [] [0, 3] [] (S71_1 k (ByteArray.mk #[])) rfl (by cbv) ⟨k, (ByteArray.mk #[]), rfl, ?_, rfl⟩ (fun σ m hI => ?_)
 ·
  exact ⟨by omega, by omega, by show ((0 : Nat) : Int) + k ≤ _; omega, rfl⟩
 obtain ⟨kk, out, rfl, ⟨hk0, hk1, hs, hm⟩, rfl⟩ := hI
 refine gs (gx hA 2 ?_)
 refine go_cond rfl (fun c2 => ?_) (fun c2 => ?_)
 ·
  have ec2 : 0 < kk := gtr_t hA c2
  refine gk ?_
  refine go_block ?_
  refine gs (gr (rn hA 7 ?_))
  obtain ⟨s3, hs3⟩ := nm ((A.ofB [[.int .u8 (A.cnv .u8 (A.num .add .i64 48 (A.num .rem .i64 kk 10)))]]) ++ out : ByteArray)
  have zs3 : ByteArray.size s3 = ByteArray.size (A.ofB [[.int .u8 (A.cnv .u8 (A.num .add .i64 48 (A.num .rem .i64 kk 10)))]]) + ByteArray.size out := by rw [hs3]; exact ByteArray.size_append
  have bs3 : ByteArray.size (A.ofB [[.int .u8 (A.cnv .u8 (A.num .add .i64 48 (A.num .rem .i64 kk 10)))]]) + ByteArray.size out ≤ 140737488355328 := by
   first
   | (rw [dig_eq hA, dig_size]; omega)
   | (show 1 + _ ≤ _; omega)
  refine ops_step rfl rfl (str_add rfl rfl rfl hs3 bs3) ?_
  refine rz hA 1 ?_
  refine gy hA 3 ?_
  refine ⟨(S71_1 (A.num .quo .i64 kk 10) s3), Int.toNat (A.num .quo .i64 kk 10), ?_, by cbv, (A.num .quo .i64 kk 10), s3, rfl, ?_, rfl⟩
  ·
   rw [quo_i64 hA (by omega) (by omega)]; omega
  rw [quo_i64 hA (by omega) (by omega)]
  rw [dig_eq hA] at hs3 zs3
  rw [dig_size] at zs3
  exact ⟨by omega, by omega, by omega, by rw [hm, mtGo_pos _ (by omega), hs3]⟩
 have ec2 : kk ≤ 0 := gtr_f hA c2
 refine go_exit ⟨fun _ => ?_, fun h => absurd rfl h⟩
 refine gs (gr (rn hA 1 ?_))
 obtain ⟨s4, hs4⟩ := nm ((ByteArray.mk #[109]) ++ out : ByteArray)
 have zs4 : ByteArray.size s4 = ByteArray.size (ByteArray.mk #[109]) + ByteArray.size out := by rw [hs4]; exact ByteArray.size_append
 have bs4 : ByteArray.size (ByteArray.mk #[109]) + ByteArray.size out ≤ 140737488355328 := by
  first
  | (rw [dig_eq hA, dig_size]; omega)
  | (show 1 + _ ≤ _; omega)
 refine ops_step rfl rfl (str_add rfl rfl rfl hs4 bs4) ?_
 refine rz hA 1 ?_
 refine go_ret ⟨_, by cbv, ?_⟩
 show _ = (PV.str s4)
 refine congrArg PV.str ?_
 rw [mt, if_neg (by omega), hs4]; rw [hm, mtGo_zero _ (by omega)]
def S72_1 (hv : Nat → Value) (p0 : Int) (p1 : Int) (p2 : RR) : St := { sl := [.own 1000000000, .ii p0, .bad, .bad, .bad, .ii p1, .bad, .bad, .bad, .bad, .bad, .bad, .bad, .bad, .bad, .bad, .bad, .bad, .bad, .bad], bl := [(1000000000, ⟨.arr, 1, p2⟩)], hd := [(1000000000, hv 1000000000)] }
theorem m_laws_markStringS (A : Alg) (hA : A = std) (x : List ByteArray) (k : Int) (h0 : 0 ≤ k) (h1 : k + cnStringS x ≤ 1099511627776) : RealM Tryz.prog 72 [.ow 1 (List.map eString x), .ii k] [.ow 1 (List.map eString (mkStringS k x)), .ii k] (.ii (k + cnStringS x)) := by
 obtain ⟨x_r, a6⟩ := nm (x.map eString)
 have f7 := rlen_map hA a6
 refine realM_args (args1 := [.ow 1 x_r, .ii k]) (by subst a6; rfl) rfl ?_
 have h2 : (List.length x : Int) ≤ 1099511627776 := by have := cnStringS_ge x; omega
 refine realM tyOk Tryz.func72 (by kernel_rfl) (afunM_of rfl (by cbv) (fun hv => ?_))
 refine gs (gB (rn hA 1 (oz ?_)))
 refine gs (gs (gB (rn hA 1 (oz ?_))))
 refine go_block ?_
 refine go_loopE (fun σ m => ∃ (i : Nat) (ro : RR) (n5 : Int) (kk : Int), σ = (S72_1 hv kk n5 ro) ∧ (n5 = (i : Int) ∧ i ≤ List.length x ∧ kk = k + cnStringS (x.take i) ∧ ro = List.map eString (mkStringS k (x.take i) ++ x.drop i)) ∧ m = List.length x - i) _ [] [0, 1, 5] [1000000000] (S72_1 hv k 0 x_r) rfl (by cbv) ⟨0, x_r, 0, k, rfl, ?_, rfl⟩ (fun σ m hI => ?_)
 ·
  exact ⟨rfl, Nat.zero_le _, by simp [cnStringS], a6⟩
 obtain ⟨i, ro, n5, kk, rfl, ⟨hn5, hi, hkk, hro⟩, rfl⟩ := hI
 have hlro : (List.length ro : Int) = List.length x := by
  rw [hro]; simp only [List.length_map, List.length_append, mkStringS_len, List.length_take, List.length_drop]; omega
 have lro : A.rlen ro = (List.length x : Int) := by
  rw [rlen_map hA hro]; simp only [List.length_append, mkStringS_len, List.length_take, List.length_drop]; omega
 refine gs (gs (gB (rn hA 4 (oz ?_))))
 refine go_cond rfl (fun c1 => ?_) (fun c1 => ?_)
 ·
  have ec1 : n5 < (A.rlen ro) := lss_t hA c1
  refine gk (gs ?_)
  refine go_block ?_
  refine gs ?_
  have h05 : (0 : Int) ≤ n5 := by omega
  have hlt : Int.toNat n5 < List.length x := by omega
  obtain ⟨y, hy⟩ : ∃ y, x[Int.toNat n5]? = some y := ⟨_, List.getElem?_eq_getElem hlt⟩
  have hyi : x[i]? = some y := by have h := hy; rw [hn5] at h; exact h
  have cat := cnStringS_at hyi
  have cle := cnStringS_le x (i + 1)
  have cnn := cnStringS_nn (x.take i)
  have cce : ceString y = 1 := rfl
  have b1 : ro = List.map eString (mkStringS k (x.take i) ++ y :: x.drop (i + 1)) := by
   rw [hro, ← drop_at hyi]
  have b4 : ro[Int.toNat n5]? = some (eString y) := by
   rw [b1, hn5]; exact mark_get (by rw [mkStringS_len, List.length_take]; omega)
  have hzro : ro[Int.toNat n5]? = some [.str y] := by exact b4
  obtain ⟨r1, hr1, e1⟩ : ∃ r : Int, r = 0 ∧ 0 ≤ r := ⟨0, rfl, by decide⟩
  obtain ⟨r0, hr0, e0⟩ : ∃ r : Int, r = 1 + r1 ∧ 0 ≤ r := ⟨_, rfl, nn_add (by decide) e1⟩
  have p0 : 0 ≤ kk := by clear hr1 e1 hr0 e0; omega
  have hrce : r0 = ceString y := by subst hr1 hr0; rw [cce]; omega
  have q0 : kk + r0 ≤ 1099511627776 ∧ kk + r0 = kk + r0 := ⟨by clear hr1 e1 hr0 e0; omega, rfl⟩
  have a5 : n5 < (List.length x : Int) := by clear hr1 e1 hr0 e0; omega
  have hi1 : i + 1 ≤ List.length x := by clear hr1 e1 hr0 e0; omega
  have c4 : A.num .add .i64 n5 1 = ((i + 1 : Nat) : Int) := by
   clear hr1 e1 hr0 e0; rw [add_i64 hA (by omega) (by omega)]; omega
  have hlen : i = List.length (mkStringS k (x.take i)) := by rw [mkStringS_len, List.length_take]; clear hr1 e1 hr0 e0; omega
  have hdec : List.length x - (i + 1) < List.length x - i := by clear hr1 e1 hr0 e0; omega
  refine gB (rn hA 3 ?_)
  obtain ⟨f3, m8, hc3⟩ : ∃ (f3 : ByteArray), f3 = (mt kk) ∧ Real Tryz.prog 71 [.ii kk] (.str f3) := ⟨_, rfl, by exact r_laws_markText A hA kk p0 (le_k q0 e0)⟩
  refine ops_callV rfl rfl (by cbv) (by cbv) hc3 (.inr rfl) (by cbv) ?_
  have u6 : n5 < (List.length ro : Int) := by rw [hlro]; exact a5
  refine ops_step rfl rfl (idx_own rfl rfl rfl rfl rfl rfl h05 u6 rfl) ?_
  obtain ⟨o5, ho5⟩ : ∃ r, r = ro.set (Int.toNat n5) [.str f3] := ⟨_, rfl⟩
  have x2 := so_l ho5 hlro
  have w9 := so_z ho5 hzro
  have u4 := ho5
  refine ops_step rfl rfl (sto_arr (r := [.str y]) (cs := [.str f3]) rfl rfl rfl rfl rfl ⟨_, _, rfl⟩ rfl rfl hzro rfl ho5) ?_
  refine oz ?_
  refine gB (rn hA 1 ?_)
  obtain ⟨k6, wk6, u0, pk6, qk6⟩ := add_one hA p0 q0 hr0 e1
  refine ops_step rfl rfl (int_add hA rfl rfl rfl u0) ?_
  refine rn hA 1 (oz ?_)
  refine gB (rn hA 1 ?_)
  refine rn hA 1 ?_
  refine rn hA 1 (oz ?_)
  refine ⟨(S72_1 hv k6 (A.num .add .i64 n5 1) o5), List.length x - (i + 1), ?_, by cbv, i + 1, o5, (A.num .add .i64 n5 1), k6, rfl, ?_, rfl⟩
  ·
   exact hdec
  have hrow : ([.str f3] : List PV) = eString (meString kk y) := by
   subst wk6
   show _ = ([_] : List PV)
   exact congr (congrArg List.cons (congrArg PV.str m8)) (rfl)
  refine ⟨c4, hi1, fin_k qk6 hr1 hrce hkk cat, ?_⟩
  rw [u4, hrow, b1, hn5, mkStringS_at k hyi, ← hkk]
  exact mark_set (hlen.symm.trans (Int.toNat_natCast i).symm)
 have ec1 : (A.rlen ro) ≤ n5 := lss_f hA c1
 refine go_exit ⟨fun _ => ?_, fun h => absurd rfl h⟩
 refine gs (gB (rn hA 2 (oz ?_)))
 refine go_ret ⟨⟨rfl, trivial⟩, Eq.trans (b := some [.ow 1 ro, .ii k]) (by cbv) ?_, _, by cbv, ?_⟩
 ·
  rw [hro, List.take_of_length_le (by omega), List.drop_of_length_le (by omega), List.append_nil]
 show _ = (PV.int .i64 kk)
 refine congrArg (PV.int .i64) ?_
 rw [hkk, List.take_of_length_le (by omega)]
def S70_1 (hv : Nat → Value) (p0 : Int) (p1 : Int) (p2 : RR) : St := { sl := [.own 1000000000, .ii p0, .bad, .bad, .bad, .ii p1, .bad, .bad, .bad, .bad, .bad, .bad, .bad, .bad, .bad, .bad, .bad, .bad, .bad], bl := [(1000000000, ⟨.arr, 1, p2⟩)], hd := [(1000000000, hv 1000000000)] }
theorem m_laws_markIntS (A : Alg) (hA : A = std) (x : List Int) (k : Int) (h0 : 0 ≤ k) (h1 : k + cnIntS x ≤ 1099511627776) : RealM Tryz.prog 70 [.ow 1 (List.map eInt x), .ii k] [.ow 1 (List.map eInt (mkIntS k x)), .ii k] (.ii (k + cnIntS x)) := by
 obtain ⟨x_r, a6⟩ := nm (x.map eInt)
 have f7 := rlen_map hA a6
 refine realM_args (args1 := [.ow 1 x_r, .ii k]) (by subst a6; rfl) rfl ?_
 have h2 : (List.length x : Int) ≤ 1099511627776 := by have := cnIntS_ge x; omega
 refine realM tyOk Tryz.func70 (by kernel_rfl) (afunM_of rfl (by cbv) (fun hv => ?_))
 refine gs (gB (rn hA 1 (oz ?_)))
 refine gs (gs (gB (rn hA 1 (oz ?_))))
 refine go_block ?_
 refine go_loopE (fun σ m => ∃ (i : Nat) (ro : RR) (n5 : Int) (kk : Int), σ = (S70_1 hv kk n5 ro) ∧ (n5 = (i : Int) ∧ i ≤ List.length x ∧ kk = k + cnIntS (x.take i) ∧ ro = List.map eInt (mkIntS k (x.take i) ++ x.drop i)) ∧ m = List.length x - i) _ [] [0, 1, 5] [1000000000] (S70_1 hv k 0 x_r) rfl (by cbv) ⟨0, x_r, 0, k, rfl, ?_, rfl⟩ (fun σ m hI => ?_)
 ·
  exact ⟨rfl, Nat.zero_le _, by simp [cnIntS], a6⟩
 obtain ⟨i, ro, n5, kk, rfl, ⟨hn5, hi, hkk, hro⟩, rfl⟩ := hI
 have hlro : (List.length ro : Int) = List.length x := by
  rw [hro]; simp only [List.length_map, List.length_append, mkIntS_len, List.length_take, List.length_drop]; omega
 have lro : A.rlen ro = (List.length x : Int) := by
  rw [rlen_map hA hro]; simp only [List.length_append, mkIntS_len, List.length_take, List.length_drop]; omega
 refine gs (gs (gB (rn hA 4 (oz ?_))))
 refine go_cond rfl (fun c1 => ?_) (fun c1 => ?_)
 ·
  have ec1 : n5 < (A.rlen ro) := lss_t hA c1
  refine gk (gs ?_)
  refine go_block ?_
  refine gs ?_
  have h05 : (0 : Int) ≤ n5 := by omega
  have hlt : Int.toNat n5 < List.length x := by omega
  obtain ⟨y, hy⟩ : ∃ y, x[Int.toNat n5]? = some y := ⟨_, List.getElem?_eq_getElem hlt⟩
  have hyi : x[i]? = some y := by have h := hy; rw [hn5] at h; exact h
  have cat := cnIntS_at hyi
  have cle := cnIntS_le x (i + 1)
  have cnn := cnIntS_nn (x.take i)
  have cce : ceInt y = 1 := rfl
  have b1 : ro = List.map eInt (mkIntS k (x.take i) ++ y :: x.drop (i + 1)) := by
   rw [hro, ← drop_at hyi]
  have b4 : ro[Int.toNat n5]? = some (eInt y) := by
   rw [b1, hn5]; exact mark_get (by rw [mkIntS_len, List.length_take]; omega)
  have hzro : ro[Int.toNat n5]? = some [.ii y] := by exact b4
  obtain ⟨r1, hr1, e1⟩ : ∃ r : Int, r = 0 ∧ 0 ≤ r := ⟨0, rfl, by decide⟩
  obtain ⟨r0, hr0, e0⟩ : ∃ r : Int, r = 1 + r1 ∧ 0 ≤ r := ⟨_, rfl, nn_add (by decide) e1⟩
  have p0 : 0 ≤ kk := by clear hr1 e1 hr0 e0; omega
  have hrce : r0 = ceInt y := by subst hr1 hr0; rw [cce]; omega
  have q0 : kk + r0 ≤ 1099511627776 ∧ kk + r0 = kk + r0 := ⟨by clear hr1 e1 hr0 e0; omega, rfl⟩
  have a5 : n5 < (List.length x : Int) := by clear hr1 e1 hr0 e0; omega
  have hi1 : i + 1 ≤ List.length x := by clear hr1 e1 hr0 e0; omega
  have c4 : A.num .add .i64 n5 1 = ((i + 1 : Nat) : Int) := by
   clear hr1 e1 hr0 e0; rw [add_i64 hA (by omega) (by omega)]; omega
  have hlen : i = List.length (mkIntS k (x.take i)) := by rw [mkIntS_len, List.length_take]; clear hr1 e1 hr0 e0; omega
  have hdec : List.length x - (i + 1) < List.length x - i := by clear hr1 e1 hr0 e0; omega
  refine gB (rn hA 3 ?_)
  have c7 : n5 < (List.length ro : Int) := by rw [hlro]; exact a5
  refine ops_step rfl rfl (idx_own rfl rfl rfl rfl rfl rfl h05 c7 rfl) ?_
  obtain ⟨o3, ho3⟩ : ∃ r, r = ro.set (Int.toNat n5) [.ii kk] := ⟨_, rfl⟩
  have b9 := so_l ho3 hlro
  have c0 := so_z ho3 hzro
  have d0 := ho3
  refine ops_step rfl rfl (sto_arr (r := [.ii y]) (cs := [.ii kk]) rfl rfl rfl rfl rfl ⟨_, _, rfl⟩ rfl rfl hzro rfl ho3) ?_
  refine oz ?_
  refine gB (rn hA 1 ?_)
  obtain ⟨k4, wk4, c9, pk4, qk4⟩ := add_one hA p0 q0 hr0 e1
  refine ops_step rfl rfl (int_add hA rfl rfl rfl c9) ?_
  refine rn hA 1 (oz ?_)
  refine gB (rn hA 1 ?_)
  refine rn hA 1 ?_
  refine rn hA 1 (oz ?_)
  refine ⟨(S70_1 hv k4 (A.num .add .i64 n5 1) o3), List.length x - (i + 1), ?_, by cbv, i + 1, o3, (A.num .add .i64 n5 1), k4, rfl, ?_, rfl⟩
  ·
   exact hdec
  have hrow : ([.ii kk] : List PV) = eInt (meInt kk y) := by
   subst wk4
   show _ = ([_] : List PV)
   exact congr (congrArg List.cons (congrArg (PV.int .i64) rfl)) (rfl)
  refine ⟨c4, hi1, fin_k qk4 hr1 hrce hkk cat, ?_⟩
  rw [d0, hrow, b1, hn5, mkIntS_at k hyi, ← hkk]
  exact mark_set (hlen.symm.trans (Int.toNat_natCast i).symm)
 have ec1 : (A.rlen ro) ≤ n5 := lss_f hA c1
 refine go_exit ⟨fun _ => ?_, fun h => absurd rfl h⟩
 refine gs (gB (rn hA 2 (oz ?_)))
 refine go_ret ⟨⟨rfl, trivial⟩, Eq.trans (b := some [.ow 1 ro, .ii k]) (by cbv) ?_, _, by cbv, ?_⟩
 ·
  rw [hro, List.take_of_length_le (by omega), List.drop_of_length_le (by omega), List.append_nil]
 show _ = (PV.int .i64 kk)
 refine congrArg (PV.int .i64) ?_
 rw [hkk, List.take_of_length_le (by omega)]
def S74_1 (hv : Nat → Value) (p0 : Int) (p1 : Int) (p2 : RR) : St := { sl := [.own 1000000000, .ii p0, .bad, .bad, .bad, .ii p1, .bad, .bad, .bad, .bad, .bad, .bad, .bad, .bad, .bad, .bad, .bad, .bad, .bad, .bad, .bad], bl := [(1000000000, ⟨.arr, 1, p2⟩)], hd := [(1000000000, hv 1000000000)] }
theorem m_laws_markBoolS (A : Alg) (hA : A = std) (x : List Bool) (k : Int) (h0 : 0 ≤ k) (h1 : k + cnBoolS x ≤ 1099511627776) : RealM Tryz.prog 74 [.ow 1 (List.map eBool x), .ii k] [.ow 1 (List.map eBool (mkBoolS k x)), .ii k] (.ii (k + cnBoolS x)) := by
 obtain ⟨x_r, a6⟩ := nm (x.map eBool)
 have f7 := rlen_map hA a6
 refine realM_args (args1 := [.ow 1 x_r, .ii k]) (by subst a6; rfl) rfl ?_
 have h2 : (List.length x : Int) ≤ 1099511627776 := by have := cnBoolS_ge x; omega
 refine realM tyOk Tryz.func74 (by kernel_rfl) (afunM_of rfl (by cbv) (fun hv => ?_))
 refine gs (gB (rn hA 1 (oz ?_)))
 refine gs (gs (gB (rn hA 1 (oz ?_))))
 refine go_block ?_
 refine go_loopE (fun σ m => ∃ (i : Nat) (ro : RR) (n5 : Int) (kk : Int), σ = (S74_1 hv kk n5 ro) ∧ (n5 = (i : Int) ∧ i ≤ List.length x ∧ kk = k + cnBoolS (x.take i) ∧ ro = List.map eBool (mkBoolS k (x.take i) ++ x.drop i)) ∧ m = List.length x - i) _ [] [0, 1, 5] [1000000000] (S74_1 hv k 0 x_r) rfl (by cbv) ⟨0, x_r, 0, k, rfl, ?_, rfl⟩ (fun σ m hI => ?_)
 ·
  exact ⟨rfl, Nat.zero_le _, by simp [cnBoolS], a6⟩
 obtain ⟨i, ro, n5, kk, rfl, ⟨hn5, hi, hkk, hro⟩, rfl⟩ := hI
 have hlro : (List.length ro : Int) = List.length x := by
  rw [hro]; simp only [List.length_map, List.length_append, mkBoolS_len, List.length_take, List.length_drop]; omega
 have lro : A.rlen ro = (List.length x : Int) := by
  rw [rlen_map hA hro]; simp only [List.length_append, mkBoolS_len, List.length_take, List.length_drop]; omega
 refine gs (gs (gB (rn hA 4 (oz ?_))))
 refine go_cond rfl (fun c1 => ?_) (fun c1 => ?_)
 ·
  have ec1 : n5 < (A.rlen ro) := lss_t hA c1
  refine gk (gs ?_)
  refine go_block ?_
  refine gs ?_
  have h05 : (0 : Int) ≤ n5 := by omega
  have hlt : Int.toNat n5 < List.length x := by omega
  obtain ⟨y, hy⟩ : ∃ y, x[Int.toNat n5]? = some y := ⟨_, List.getElem?_eq_getElem hlt⟩
  have hyi : x[i]? = some y := by have h := hy; rw [hn5] at h; exact h
  have cat := cnBoolS_at hyi
  have cle := cnBoolS_le x (i + 1)
  have cnn := cnBoolS_nn (x.take i)
  have cce : ceBool y = 1 := rfl
  have b1 : ro = List.map eBool (mkBoolS k (x.take i) ++ y :: x.drop (i + 1)) := by
   rw [hro, ← drop_at hyi]
  have b4 : ro[Int.toNat n5]? = some (eBool y) := by
   rw [b1, hn5]; exact mark_get (by rw [mkBoolS_len, List.length_take]; omega)
  have hzro : ro[Int.toNat n5]? = some [.bool y] := by exact b4
  obtain ⟨r1, hr1, e1⟩ : ∃ r : Int, r = 0 ∧ 0 ≤ r := ⟨0, rfl, by decide⟩
  obtain ⟨r0, hr0, e0⟩ : ∃ r : Int, r = 1 + r1 ∧ 0 ≤ r := ⟨_, rfl, nn_add (by decide) e1⟩
  have p0 : 0 ≤ kk := by clear hr1 e1 hr0 e0; omega
  have hrce : r0 = ceBool y := by subst hr1 hr0; rw [cce]; omega
  have q0 : kk + r0 ≤ 1099511627776 ∧ kk + r0 = kk + r0 := ⟨by clear hr1 e1 hr0 e0; omega, rfl⟩
  have a5 : n5 < (List.length x : Int) := by clear hr1 e1 hr0 e0; omega
  have hi1 : i + 1 ≤ List.length x := by clear hr1 e1 hr0 e0; omega
  have c4 : A.num .add .i64 n5 1 = ((i + 1 : Nat) : Int) := by
   clear hr1 e1 hr0 e0; rw [add_i64 hA (by omega) (by omega)]; omega
  have hlen : i = List.length (mkBoolS k (x.take i)) := by rw [mkBoolS_len, List.length_take]; clear hr1 e1 hr0 e0; omega
  have hdec : List.length x - (i + 1) < List.length x - i := by clear hr1 e1 hr0 e0; omega
  refine gB (rn hA 5 ?_)
  have c7 : n5 < (List.length ro : Int) := by rw [hlro]; exact a5
  refine ops_step rfl rfl (idx_own rfl rfl rfl rfl rfl rfl h05 c7 rfl) ?_
  obtain ⟨o3, ho3⟩ : ∃ r, r = ro.set (Int.toNat n5) [.bool (A.cmp .eql (A.num .rem .i64 kk 3) 0)] := ⟨_, rfl⟩
  have b9 := so_l ho3 hlro
  have c0 := so_z ho3 hzro
  have d0 := ho3
  refine ops_step rfl rfl (sto_arr (r := [.bool y]) (cs := [.bool (A.cmp .eql (A.num .rem .i64 kk 3) 0)]) rfl rfl rfl rfl rfl ⟨_, _, rfl⟩ rfl rfl hzro rfl ho3) ?_
  refine oz ?_
  refine gB (rn hA 1 ?_)
  obtain ⟨k4, wk4, c9, pk4, qk4⟩ := add_one hA p0 q0 hr0 e1
  refine ops_step rfl rfl (int_add hA rfl rfl rfl c9) ?_
  refine rn hA 1 (oz ?_)
  refine gB (rn hA 1 ?_)
  refine rn hA 1 ?_
  refine rn hA 1 (oz ?_)
  refine ⟨(S74_1 hv k4 (A.num .add .i64 n5 1) o3), List.length x - (i + 1), ?_, by cbv, i + 1, o3, (A.num .add .i64 n5 1), k4, rfl, ?_, rfl⟩
  ·
   exact hdec
  have hrow : ([.bool (A.cmp .eql (A.num .rem .i64 kk 3) 0)] : List PV) = eBool (meBool kk y) := by
   subst wk4
   show _ = ([_] : List PV)
   exact congr (congrArg List.cons (congrArg PV.bool (mb_eq hA rfl))) (rfl)
  refine ⟨c4, hi1, fin_k qk4 hr1 hrce hkk cat, ?_⟩
  rw [d0, hrow, b1, hn5, mkBoolS_at k hyi, ← hkk]
  exact mark_set (hlen.symm.trans (Int.toNat_natCast i).symm)
 have ec1 : (A.rlen ro) ≤ n5 := lss_f hA c1
 refine go_exit ⟨fun _ => ?_, fun h => absurd rfl h⟩
 refine gs (gB (rn hA 2 (oz ?_)))
 refine go_ret ⟨⟨rfl, trivial⟩, Eq.trans (b := some [.ow 1 ro, .ii k]) (by cbv) ?_, _, by cbv, ?_⟩
 ·
  rw [hro, List.take_of_length_le (by omega), List.drop_of_length_le (by omega), List.append_nil]
 show _ = (PV.int .i64 kk)
 refine congrArg (PV.int .i64) ?_
 rw [hkk, List.take_of_length_le (by omega)]
def S157_1 (hv : Nat → Value) (p0 : Int) (p1 : Int) (p2 : RR) : St := { sl := [.own 1000000000, .ii p0, .bad, .bad, .bad, .ii p1, .bad, .bad, .bad, .bad, .bad, .bad, .bad, .bad, .bad, .bad, .bad, .bad, .bad, .bad, .bad, .bad, .bad, .bad, .bad, .bad, .bad, .bad], bl := [(1000000000, ⟨.arr, 2, p2⟩)], hd := [(1000000000, hv 1000000000)] }
theorem m_laws_markWriteS (A : Alg) (hA : A = std) (x : List GWrite) (k : Int) (h0 : 0 ≤ k) (h1 : k + cnWriteS x ≤ 1099511627776) : RealM Tryz.prog 157 [.ow 2 (List.map eoWrite x), .ii k] [.ow 2 (List.map eoWrite (mkWriteS k x)), .ii k] (.ii (k + cnWriteS x)) := by
 obtain ⟨x_r, a6⟩ := nm (x.map eoWrite)
 have f7 := rlen_map hA a6
 refine realM_args (args1 := [.ow 2 x_r, .ii k]) (by subst a6; rfl) rfl ?_
 have h2 : (List.length x : Int) ≤ 1099511627776 := by have := cnWriteS_ge x; omega
 refine realM tyOk Tryz.func157 (by kernel_rfl) (afunM_of rfl (by cbv) (fun hv => ?_))
 refine gs (gB (rn hA 1 (oz ?_)))
 refine gs (gs (gB (rn hA 1 (oz ?_))))
 refine go_block ?_
 refine go_loopE (fun σ m => ∃ (i : Nat) (ro : RR) (n5 : Int) (kk : Int), σ = (S157_1 hv kk n5 ro) ∧ (n5 = (i : Int) ∧ i ≤ List.length x ∧ kk = k + cnWriteS (x.take i) ∧ ro = List.map eoWrite (mkWriteS k (x.take i) ++ x.drop i)) ∧ m = List.length x - i) _ [] [0, 1, 5] [1000000000] (S157_1 hv k 0 x_r) rfl (by cbv) ⟨0, x_r, 0, k, rfl, ?_, rfl⟩ (fun σ m hI => ?_)
 ·
  exact ⟨rfl, Nat.zero_le _, by simp [cnWriteS], a6⟩
 obtain ⟨i, ro, n5, kk, rfl, ⟨hn5, hi, hkk, hro⟩, rfl⟩ := hI
 have hlro : (List.length ro : Int) = List.length x := by
  rw [hro]; simp only [List.length_map, List.length_append, mkWriteS_len, List.length_take, List.length_drop]; omega
 have lro : A.rlen ro = (List.length x : Int) := by
  rw [rlen_map hA hro]; simp only [List.length_append, mkWriteS_len, List.length_take, List.length_drop]; omega
 refine gs (gs (gB (rn hA 4 (oz ?_))))
 refine go_cond rfl (fun c1 => ?_) (fun c1 => ?_)
 ·
  have ec1 : n5 < (A.rlen ro) := lss_t hA c1
  refine gk (gs ?_)
  refine go_block ?_
  refine gs ?_
  have h05 : (0 : Int) ≤ n5 := by omega
  have hlt : Int.toNat n5 < List.length x := by omega
  obtain ⟨y, hy⟩ : ∃ y, x[Int.toNat n5]? = some y := ⟨_, List.getElem?_eq_getElem hlt⟩
  have hyi : x[i]? = some y := by have h := hy; rw [hn5] at h; exact h
  have cat := cnWriteS_at hyi
  have cle := cnWriteS_le x (i + 1)
  have cnn := cnWriteS_nn (x.take i)
  have cce : ceWrite y = _ := rfl
  have b1 : ro = List.map eoWrite (mkWriteS k (x.take i) ++ y :: x.drop (i + 1)) := by
   rw [hro, ← drop_at hyi]
  have b4 : ro[Int.toNat n5]? = some (eoWrite y) := by
   rw [b1, hn5]; exact mark_get (by rw [mkWriteS_len, List.length_take]; omega)
  obtain ⟨i1, a8⟩ := y
  have hzro : ro[Int.toNat n5]? = some [.ii i1, .str a8] := by exact b4
  have cce : ceWrite (⟨i1, a8⟩ : GWrite) = 1 + 1 := rfl
  obtain ⟨r2, hr2, e2⟩ : ∃ r : Int, r = 0 ∧ 0 ≤ r := ⟨0, rfl, by decide⟩
  obtain ⟨r1, hr1, e1⟩ : ∃ r : Int, r = 1 + r2 ∧ 0 ≤ r := ⟨_, rfl, nn_add (by decide) e2⟩
  obtain ⟨r0, hr0, e0⟩ : ∃ r : Int, r = 1 + r1 ∧ 0 ≤ r := ⟨_, rfl, nn_add (by decide) e1⟩
  have p0 : 0 ≤ kk := by clear hr2 e2 hr1 e1 hr0 e0; omega
  have hrce : r0 = ceWrite (⟨i1, a8⟩ : GWrite) := by subst hr2 hr1 hr0; rw [cce]; omega
  have q0 : kk + r0 ≤ 1099511627776 ∧ kk + r0 = kk + r0 := ⟨by clear hr2 e2 hr1 e1 hr0 e0; omega, rfl⟩
  have a5 : n5 < (List.length x : Int) := by clear hr2 e2 hr1 e1 hr0 e0; omega
  have hi1 : i + 1 ≤ List.length x := by clear hr2 e2 hr1 e1 hr0 e0; omega
  have c4 : A.num .add .i64 n5 1 = ((i + 1 : Nat) : Int) := by
   clear hr2 e2 hr1 e1 hr0 e0; rw [add_i64 hA (by omega) (by omega)]; omega
  have hlen : i = List.length (mkWriteS k (x.take i)) := by rw [mkWriteS_len, List.length_take]; clear hr2 e2 hr1 e1 hr0 e0; omega
  have hdec : List.length x - (i + 1) < List.length x - i := by clear hr2 e2 hr1 e1 hr0 e0; omega
  refine gB (rn hA 3 ?_)
  have c7 : n5 < (List.length ro : Int) := by rw [hlro]; exact a5
  refine ops_step rfl rfl (idx_own rfl rfl rfl rfl rfl rfl h05 c7 rfl) ?_
  refine rn hA 1 ?_
  obtain ⟨o3, ho3⟩ : ∃ r, r = ro.set (Int.toNat n5) [.ii kk, .str a8] := ⟨_, rfl⟩
  have b9 := so_l ho3 hlro
  have c0 := so_z ho3 hzro
  have d0 := ho3
  refine ops_step rfl rfl (sto_arr (r := [.ii i1, .str a8]) (cs := [.ii kk]) rfl rfl rfl rfl rfl ⟨_, _, rfl⟩ rfl rfl hzro rfl ho3) ?_
  refine oz ?_
  refine gs (gB (rn hA 1 ?_))
  obtain ⟨k4, wk4, c9, pk4, qk4⟩ := add_one hA p0 q0 hr0 e1
  refine ops_step rfl rfl (int_add hA rfl rfl rfl c9) ?_
  refine rn hA 1 (oz ?_)
  refine gs (gB (rn hA 3 ?_))
  obtain ⟨b2, g9, hc6⟩ : ∃ (b2 : ByteArray), b2 = (mt k4) ∧ Real Tryz.prog 71 [.ii k4] (.str b2) := ⟨_, rfl, by exact r_laws_markText A hA k4 pk4 (le_k qk4 e1)⟩
  refine ops_callV rfl rfl (by cbv) (by cbv) hc6 (.inr rfl) (by cbv) ?_
  have l1 : n5 < (List.length o3 : Int) := by rw [b9]; exact a5
  refine ops_step rfl rfl (idx_own rfl rfl rfl rfl rfl rfl h05 l1 rfl) ?_
  refine rn hA 1 ?_
  obtain ⟨o8, ho8⟩ : ∃ r, r = o3.set (Int.toNat n5) [.ii kk, .str b2] := ⟨_, rfl⟩
  have k2 := so_l ho8 b9
  have l0 := so_z ho8 c0
  have k8 := so_f ho8 d0
  refine ops_step rfl rfl (sto_arr (r := [.ii kk, .str a8]) (cs := [.str b2]) rfl rfl rfl rfl rfl ⟨_, _, rfl⟩ rfl rfl c0 rfl ho8) ?_
  refine oz ?_
  refine gB (rn hA 1 ?_)
  obtain ⟨k9, wk9, l2, pk9, qk9⟩ := add_one hA pk4 qk4 hr1 e2
  refine ops_step rfl rfl (int_add hA rfl rfl rfl l2) ?_
  refine rn hA 1 (oz ?_)
  refine gB (rn hA 1 ?_)
  refine rn hA 1 ?_
  refine rn hA 1 (oz ?_)
  refine ⟨(S157_1 hv k9 (A.num .add .i64 n5 1) o8), List.length x - (i + 1), ?_, by cbv, i + 1, o8, (A.num .add .i64 n5 1), k9, rfl, ?_, rfl⟩
  ·
   exact hdec
  have hrow : ([.ii kk, .str b2] : List PV) = eoWrite (meWrite kk (⟨i1, a8⟩ : GWrite)) := by
   subst wk4 wk9
   show _ = ([_, _] : List PV)
   exact congr (congrArg List.cons (congrArg (PV.int .i64) rfl)) (congr (congrArg List.cons (congrArg PV.str g9)) (rfl))
  refine ⟨c4, hi1, fin_k qk9 hr2 hrce hkk cat, ?_⟩
  rw [k8, hrow, b1, hn5, mkWriteS_at k hyi, ← hkk]
  exact mark_set (hlen.symm.trans (Int.toNat_natCast i).symm)
 have ec1 : (A.rlen ro) ≤ n5 := lss_f hA c1
 refine go_exit ⟨fun _ => ?_, fun h => absurd rfl h⟩
 refine gs (gB (rn hA 2 (oz ?_)))
 refine go_ret ⟨⟨rfl, trivial⟩, Eq.trans (b := some [.ow 2 ro, .ii k]) (by cbv) ?_, _, by cbv, ?_⟩
 ·
  rw [hro, List.take_of_length_le (by omega), List.drop_of_length_le (by omega), List.append_nil]
 show _ = (PV.int .i64 kk)
 refine congrArg (PV.int .i64) ?_
 rw [hkk, List.take_of_length_le (by omega)]
def S73_1 (hv : Nat → Value) (p0 : Int) (p1 : Int) (p2 : RR) : St := { sl := [.own 1000000000, .ii p0, .bad, .bad, .bad, .ii p1, .bad, .bad, .bad, .bad, .bad, .bad, .bad, .bad, .bad, .bad, .bad, .bad, .bad, .bad, .bad, .bad, .bad, .bad, .bad, .bad, .bad, .bad, .bad, .bad, .bad, .bad, .bad, .bad, .bad], bl := [(1000000000, ⟨.arr, 3, p2⟩)], hd := [(1000000000, hv 1000000000)] }
theorem m_laws_markMailS (A : Alg) (hA : A = std) (x : List GMail) (k : Int) (h0 : 0 ≤ k) (h1 : k + cnMailS x ≤ 1099511627776) : RealM Tryz.prog 73 [.ow 3 (List.map eoMail x), .ii k] [.ow 3 (List.map eoMail (mkMailS k x)), .ii k] (.ii (k + cnMailS x)) := by
 obtain ⟨x_r, a6⟩ := nm (x.map eoMail)
 have f7 := rlen_map hA a6
 refine realM_args (args1 := [.ow 3 x_r, .ii k]) (by subst a6; rfl) rfl ?_
 have h2 : (List.length x : Int) ≤ 1099511627776 := by have := cnMailS_ge x; omega
 refine realM tyOk Tryz.func73 (by kernel_rfl) (afunM_of rfl (by cbv) (fun hv => ?_))
 refine gs (gB (rn hA 1 (oz ?_)))
 refine gs (gs (gB (rn hA 1 (oz ?_))))
 refine go_block ?_
 refine go_loopE (fun σ m => ∃ (i : Nat) (ro : RR) (n5 : Int) (kk : Int), σ = (S73_1 hv kk n5 ro) ∧ (n5 = (i : Int) ∧ i ≤ List.length x ∧ kk = k + cnMailS (x.take i) ∧ ro = List.map eoMail (mkMailS k (x.take i) ++ x.drop i)) ∧ m = List.length x - i) _ [] [0, 1, 5] [1000000000] (S73_1 hv k 0 x_r) rfl (by cbv) ⟨0, x_r, 0, k, rfl, ?_, rfl⟩ (fun σ m hI => ?_)
 ·
  exact ⟨rfl, Nat.zero_le _, by simp [cnMailS], a6⟩
 obtain ⟨i, ro, n5, kk, rfl, ⟨hn5, hi, hkk, hro⟩, rfl⟩ := hI
 have hlro : (List.length ro : Int) = List.length x := by
  rw [hro]; simp only [List.length_map, List.length_append, mkMailS_len, List.length_take, List.length_drop]; omega
 have lro : A.rlen ro = (List.length x : Int) := by
  rw [rlen_map hA hro]; simp only [List.length_append, mkMailS_len, List.length_take, List.length_drop]; omega
 refine gs (gs (gB (rn hA 4 (oz ?_))))
 refine go_cond rfl (fun c1 => ?_) (fun c1 => ?_)
 ·
  have ec1 : n5 < (A.rlen ro) := lss_t hA c1
  refine gk (gs ?_)
  refine go_block ?_
  refine gs ?_
  have h05 : (0 : Int) ≤ n5 := by omega
  have hlt : Int.toNat n5 < List.length x := by omega
  obtain ⟨y, hy⟩ : ∃ y, x[Int.toNat n5]? = some y := ⟨_, List.getElem?_eq_getElem hlt⟩
  have hyi : x[i]? = some y := by have h := hy; rw [hn5] at h; exact h
  have cat := cnMailS_at hyi
  have cle := cnMailS_le x (i + 1)
  have cnn := cnMailS_nn (x.take i)
  have cce : ceMail y = _ := rfl
  have b1 : ro = List.map eoMail (mkMailS k (x.take i) ++ y :: x.drop (i + 1)) := by
   rw [hro, ← drop_at hyi]
  have b4 : ro[Int.toNat n5]? = some (eoMail y) := by
   rw [b1, hn5]; exact mark_get (by rw [mkMailS_len, List.length_take]; omega)
  obtain ⟨g2, c8, a8⟩ := y
  have hzro : ro[Int.toNat n5]? = some [.ii g2, .ii c8, .str a8] := by exact b4
  have cce : ceMail (⟨g2, c8, a8⟩ : GMail) = 1 + 1 + 1 := rfl
  obtain ⟨r3, hr3, e3⟩ : ∃ r : Int, r = 0 ∧ 0 ≤ r := ⟨0, rfl, by decide⟩
  obtain ⟨r2, hr2, e2⟩ : ∃ r : Int, r = 1 + r3 ∧ 0 ≤ r := ⟨_, rfl, nn_add (by decide) e3⟩
  obtain ⟨r1, hr1, e1⟩ : ∃ r : Int, r = 1 + r2 ∧ 0 ≤ r := ⟨_, rfl, nn_add (by decide) e2⟩
  obtain ⟨r0, hr0, e0⟩ : ∃ r : Int, r = 1 + r1 ∧ 0 ≤ r := ⟨_, rfl, nn_add (by decide) e1⟩
  have p0 : 0 ≤ kk := by clear hr3 e3 hr2 e2 hr1 e1 hr0 e0; omega
  have hrce : r0 = ceMail (⟨g2, c8, a8⟩ : GMail) := by subst hr3 hr2 hr1 hr0; rw [cce]; omega
  have q0 : kk + r0 ≤ 1099511627776 ∧ kk + r0 = kk + r0 := ⟨by clear hr3 e3 hr2 e2 hr1 e1 hr0 e0; omega, rfl⟩
  have a5 : n5 < (List.length x : Int) := by clear hr3 e3 hr2 e2 hr1 e1 hr0 e0; omega
  have hi1 : i + 1 ≤ List.length x := by clear hr3 e3 hr2 e2 hr1 e1 hr0 e0; omega
  have c4 : A.num .add .i64 n5 1 = ((i + 1 : Nat) : Int) := by
   clear hr3 e3 hr2 e2 hr1 e1 hr0 e0; rw [add_i64 hA (by omega) (by omega)]; omega
  have hlen : i = List.length (mkMailS k (x.take i)) := by rw [mkMailS_len, List.length_take]; clear hr3 e3 hr2 e2 hr1 e1 hr0 e0; omega
  have hdec : List.length x - (i + 1) < List.length x - i := by clear hr3 e3 hr2 e2 hr1 e1 hr0 e0; omega
  refine gB (rn hA 3 ?_)
  have c7 : n5 < (List.length ro : Int) := by rw [hlro]; exact a5
  refine ops_step rfl rfl (idx_own rfl rfl rfl rfl rfl rfl h05 c7 rfl) ?_
  refine rn hA 1 ?_
  obtain ⟨o3, ho3⟩ : ∃ r, r = ro.set (Int.toNat n5) [.ii kk, .ii c8, .str a8] := ⟨_, rfl⟩
  have b9 := so_l ho3 hlro
  have c0 := so_z ho3 hzro
  have d0 := ho3
  refine ops_step rfl rfl (sto_arr (r := [.ii g2, .ii c8, .str a8]) (cs := [.ii kk]) rfl rfl rfl rfl rfl ⟨_, _, rfl⟩ rfl rfl hzro rfl ho3) ?_
  refine oz ?_
  refine gs (gB (rn hA 1 ?_))
  obtain ⟨k4, wk4, c9, pk4, qk4⟩ := add_one hA p0 q0 hr0 e1
  refine ops_step rfl rfl (int_add hA rfl rfl rfl c9) ?_
  refine rn hA 1 (oz ?_)
  refine gs (gB (rn hA 3 ?_))
  have g7 : n5 < (List.length o3 : Int) := by rw [b9]; exact a5
  refine ops_step rfl rfl (idx_own rfl rfl rfl rfl rfl rfl h05 g7 rfl) ?_
  refine rn hA 1 ?_
  obtain ⟨o6, ho6⟩ : ∃ r, r = o3.set (Int.toNat n5) [.ii kk, .ii k4, .str a8] := ⟨_, rfl⟩
  have f0 := so_l ho6 b9
  have f2 := so_z ho6 c0
  have g6 := so_f ho6 d0
  refine ops_step rfl rfl (sto_arr (r := [.ii kk, .ii c8, .str a8]) (cs := [.ii k4]) rfl rfl rfl rfl rfl ⟨_, _, rfl⟩ rfl rfl c0 rfl ho6) ?_
  refine oz ?_
  refine gs (gB (rn hA 1 ?_))
  obtain ⟨k7, wk7, i0, pk7, qk7⟩ := add_one hA pk4 qk4 hr1 e2
  refine ops_step rfl rfl (int_add hA rfl rfl rfl i0) ?_
  refine rn hA 1 (oz ?_)
  refine gs (gB (rn hA 3 ?_))
  obtain ⟨f4, n6, hc9⟩ : ∃ (f4 : ByteArray), f4 = (mt k7) ∧ Real Tryz.prog 71 [.ii k7] (.str f4) := ⟨_, rfl, by exact r_laws_markText A hA k7 pk7 (le_k qk7 e2)⟩
  refine ops_callV rfl rfl (by cbv) (by cbv) hc9 (.inr rfl) (by cbv) ?_
  have p8 : n5 < (List.length o6 : Int) := by rw [f0]; exact a5
  refine ops_step rfl rfl (idx_own rfl rfl rfl rfl rfl rfl h05 p8 rfl) ?_
  refine rn hA 1 ?_
  obtain ⟨o11, i9⟩ : ∃ r, r = o6.set (Int.toNat n5) [.ii kk, .ii k4, .str f4] := ⟨_, rfl⟩
  have w8 := so_l i9 f0
  have w5 := so_z i9 f2
  have s7 := so_f i9 g6
  refine ops_step rfl rfl (sto_arr (r := [.ii kk, .ii k4, .str a8]) (cs := [.str f4]) rfl rfl rfl rfl rfl ⟨_, _, rfl⟩ rfl rfl f2 rfl i9) ?_
  refine oz ?_
  refine gB (rn hA 1 ?_)
  obtain ⟨k12, u7, q5, x1, t7⟩ := add_one hA pk7 qk7 hr2 e3
  refine ops_step rfl rfl (int_add hA rfl rfl rfl q5) ?_
  refine rn hA 1 (oz ?_)
  refine gB (rn hA 1 ?_)
  refine rn hA 1 ?_
  refine rn hA 1 (oz ?_)
  refine ⟨(S73_1 hv k12 (A.num .add .i64 n5 1) o11), List.length x - (i + 1), ?_, by cbv, i + 1, o11, (A.num .add .i64 n5 1), k12, rfl, ?_, rfl⟩
  ·
   exact hdec
  have hrow : ([.ii kk, .ii k4, .str f4] : List PV) = eoMail (meMail kk (⟨g2, c8, a8⟩ : GMail)) := by
   subst wk4 wk7 u7
   show _ = ([_, _, _] : List PV)
   exact congr (congrArg List.cons (congrArg (PV.int .i64) rfl)) (congr (congrArg List.cons (congrArg (PV.int .i64) rfl)) (congr (congrArg List.cons (congrArg PV.str n6)) (rfl)))
  refine ⟨c4, hi1, fin_k t7 hr3 hrce hkk cat, ?_⟩
  rw [s7, hrow, b1, hn5, mkMailS_at k hyi, ← hkk]
  exact mark_set (hlen.symm.trans (Int.toNat_natCast i).symm)
 have ec1 : (A.rlen ro) ≤ n5 := lss_f hA c1
 refine go_exit ⟨fun _ => ?_, fun h => absurd rfl h⟩
 refine gs (gB (rn hA 2 (oz ?_)))
 refine go_ret ⟨⟨rfl, trivial⟩, Eq.trans (b := some [.ow 3 ro, .ii k]) (by cbv) ?_, _, by cbv, ?_⟩
 ·
  rw [hro, List.take_of_length_le (by omega), List.drop_of_length_le (by omega), List.append_nil]
 show _ = (PV.int .i64 kk)
 refine congrArg (PV.int .i64) ?_
 rw [hkk, List.take_of_length_le (by omega)]
def S158_1 (hv : Nat → Value) (p0 : Int) (p1 : Int) (p2 : RR) : St := { sl := [.own 1000000000, .ii p0, .bad, .bad, .bad, .ii p1, .bad, .bad, .bad, .bad, .bad, .bad, .bad, .bad, .bad, .bad, .bad, .bad, .bad, .bad, .bad, .bad, .bad, .bad, .bad, .bad, .bad, .bad, .bad, .bad, .bad, .bad, .bad, .bad, .bad, .bad, .bad, .bad, .bad, .bad, .bad, .bad, .bad, .bad, .bad, .bad, .bad, .bad, .bad, .bad, .bad, .bad, .bad, .bad, .bad, .bad, .bad, .bad, .bad, .bad, .bad, .bad, .bad, .bad, .bad, .bad, .bad, .bad, .bad, .bad, .bad, .bad, .bad, .bad, .bad, .bad, .bad, .bad, .bad, .bad, .bad, .bad, .bad, .bad, .bad, .bad, .bad], bl := [(1000000000, ⟨.arr, 9, p2⟩)], hd := [(1000000000, hv 1000000000)] }
theorem m_laws_markItemS (A : Alg) (hA : A = std) (x : List GItem) (k : Int) (h0 : 0 ≤ k) (h1 : k + cnItemS x ≤ 1099511627776) : RealM Tryz.prog 158 [.ow 9 (List.map eoItem x), .ii k] [.ow 9 (List.map eoItem (mkItemS k x)), .ii k] (.ii (k + cnItemS x)) := by
 obtain ⟨x_r, a6⟩ := nm (x.map eoItem)
 have f7 := rlen_map hA a6
 refine realM_args (args1 := [.ow 9 x_r, .ii k]) (by subst a6; rfl) rfl ?_
 have h2 : (List.length x : Int) ≤ 1099511627776 := by have := cnItemS_ge x; omega
 refine realM tyOk Tryz.func158 (by kernel_rfl) (afunM_of rfl (by cbv) (fun hv => ?_))
 refine gs (gB (rn hA 1 (oz ?_)))
 refine gs (gs (gB (rn hA 1 (oz ?_))))
 refine go_block ?_
 refine go_loopE (fun σ m => ∃ (i : Nat) (ro : RR) (n5 : Int) (kk : Int), σ = (S158_1 hv kk n5 ro) ∧ (n5 = (i : Int) ∧ i ≤ List.length x ∧ kk = k + cnItemS (x.take i) ∧ ro = List.map eoItem (mkItemS k (x.take i) ++ x.drop i)) ∧ m = List.length x - i) _ [] [0, 1, 5] [1000000000] (S158_1 hv k 0 x_r) rfl (by cbv) ⟨0, x_r, 0, k, rfl, ?_, rfl⟩ (fun σ m hI => ?_)
 ·
  exact ⟨rfl, Nat.zero_le _, by simp [cnItemS], a6⟩
 obtain ⟨i, ro, n5, kk, rfl, ⟨hn5, hi, hkk, hro⟩, rfl⟩ := hI
 have hlro : (List.length ro : Int) = List.length x := by
  rw [hro]; simp only [List.length_map, List.length_append, mkItemS_len, List.length_take, List.length_drop]; omega
 have lro : A.rlen ro = (List.length x : Int) := by
  rw [rlen_map hA hro]; simp only [List.length_append, mkItemS_len, List.length_take, List.length_drop]; omega
 refine gs (gs (gB (rn hA 4 (oz ?_))))
 refine go_cond rfl (fun c1 => ?_) (fun c1 => ?_)
 ·
  have ec1 : n5 < (A.rlen ro) := lss_t hA c1
  refine gk (gs ?_)
  refine go_block ?_
  refine gs ?_
  have h05 : (0 : Int) ≤ n5 := by omega
  have hlt : Int.toNat n5 < List.length x := by omega
  obtain ⟨y, hy⟩ : ∃ y, x[Int.toNat n5]? = some y := ⟨_, List.getElem?_eq_getElem hlt⟩
  have hyi : x[i]? = some y := by have h := hy; rw [hn5] at h; exact h
  have cat := cnItemS_at hyi
  have cle := cnItemS_le x (i + 1)
  have cnn := cnItemS_nn (x.take i)
  have cce : ceItem y = _ := rfl
  have b1 : ro = List.map eoItem (mkItemS k (x.take i) ++ y :: x.drop (i + 1)) := by
   rw [hro, ← drop_at hyi]
  have b4 : ro[Int.toNat n5]? = some (eoItem y) := by
   rw [b1, hn5]; exact mark_get (by rw [mkItemS_len, List.length_take]; omega)
  obtain ⟨g0, ⟨b5, a7, a9, a4, a3, a2, a1, a0⟩⟩ := y
  have hzro : ro[Int.toNat n5]? = some [.ii g0, .ii b5, .ii a7, .ii a9, .ii a4, .ii a3, .str a2, .str a1, .str a0] := by exact b4
  have cce : ceItem (⟨g0, ⟨b5, a7, a9, a4, a3, a2, a1, a0⟩⟩ : GItem) = 1 + 1 + 1 + 1 + 1 + 1 + 1 + 1 + 1 := rfl
  obtain ⟨r9, hr9, e9⟩ : ∃ r : Int, r = 0 ∧ 0 ≤ r := ⟨0, rfl, by decide⟩
  obtain ⟨r8, hr8, e8⟩ : ∃ r : Int, r = 1 + r9 ∧ 0 ≤ r := ⟨_, rfl, nn_add (by decide) e9⟩
  obtain ⟨r7, hr7, e7⟩ : ∃ r : Int, r = 1 + r8 ∧ 0 ≤ r := ⟨_, rfl, nn_add (by decide) e8⟩
  obtain ⟨r6, hr6, e6⟩ : ∃ r : Int, r = 1 + r7 ∧ 0 ≤ r := ⟨_, rfl, nn_add (by decide) e7⟩
  obtain ⟨r5, hr5, e5⟩ : ∃ r : Int, r = 1 + r6 ∧ 0 ≤ r := ⟨_, rfl, nn_add (by decide) e6⟩
  obtain ⟨r4, hr4, e4⟩ : ∃ r : Int, r = 1 + r5 ∧ 0 ≤ r := ⟨_, rfl, nn_add (by decide) e5⟩
  obtain ⟨r3, hr3, e3⟩ : ∃ r : Int, r = 1 + r4 ∧ 0 ≤ r := ⟨_, rfl, nn_add (by decide) e4⟩
  obtain ⟨r2, hr2, e2⟩ : ∃ r : Int, r = 1 + r3 ∧ 0 ≤ r := ⟨_, rfl, nn_add (by decide) e3⟩
  obtain ⟨r1, hr1, e1⟩ : ∃ r : Int, r = 1 + r2 ∧ 0 ≤ r := ⟨_, rfl, nn_add (by decide) e2⟩
  obtain ⟨r0, hr0, e0⟩ : ∃ r : Int, r = 1 + r1 ∧ 0 ≤ r := ⟨_, rfl, nn_add (by decide) e1⟩
  have p0 : 0 ≤ kk := by clear hr9 e9 hr8 e8 hr7 e7 hr6 e6 hr5 e5 hr4 e4 hr3 e3 hr2 e2 hr1 e1 hr0 e0; omega
  have hrce : r0 = ceItem (⟨g0, ⟨b5, a7, a9, a4, a3, a2, a1, a0⟩⟩ : GItem) := by subst hr9 hr8 hr7 hr6 hr5 hr4 hr3 hr2 hr1 hr0; rw [cce]; omega
  have q0 : kk + r0 ≤ 1099511627776 ∧ kk + r0 = kk + r0 := ⟨by clear hr9 e9 hr8 e8 hr7 e7 hr6 e6 hr5 e5 hr4 e4 hr3 e3 hr2 e2 hr1 e1 hr0 e0; omega, rfl⟩
  have a5 : n5 < (List.length x : Int) := by clear hr9 e9 hr8 e8 hr7 e7 hr6 e6 hr5 e5 hr4 e4 hr3 e3 hr2 e2 hr1 e1 hr0 e0; omega
  have hi1 : i + 1 ≤ List.length x := by clear hr9 e9 hr8 e8 hr7 e7 hr6 e6 hr5 e5 hr4 e4 hr3 e3 hr2 e2 hr1 e1 hr0 e0; omega
  have c4 : A.num .add .i64 n5 1 = ((i + 1 : Nat) : Int) := by
   clear hr9 e9 hr8 e8 hr7 e7 hr6 e6 hr5 e5 hr4 e4 hr3 e3 hr2 e2 hr1 e1 hr0 e0; rw [add_i64 hA (by omega) (by omega)]; omega
  have hlen : i = List.length (mkItemS k (x.take i)) := by rw [mkItemS_len, List.length_take]; clear hr9 e9 hr8 e8 hr7 e7 hr6 e6 hr5 e5 hr4 e4 hr3 e3 hr2 e2 hr1 e1 hr0 e0; omega
  have hdec : List.length x - (i + 1) < List.length x - i := by clear hr9 e9 hr8 e8 hr7 e7 hr6 e6 hr5 e5 hr4 e4 hr3 e3 hr2 e2 hr1 e1 hr0 e0; omega
  refine gB (rn hA 3 ?_)
  have c7 : n5 < (List.length ro : Int) := by rw [hlro]; exact a5
  refine ops_step rfl rfl (idx_own rfl rfl rfl rfl rfl rfl h05 c7 rfl) ?_
  refine rn hA 1 ?_
  obtain ⟨o3, ho3⟩ : ∃ r, r = ro.set (Int.toNat n5) [.ii kk, .ii b5, .ii a7, .ii a9, .ii a4, .ii a3, .str a2, .str a1, .str a0] := ⟨_, rfl⟩
  have b9 := so_l ho3 hlro
  have c0 := so_z ho3 hzro
  have d0 := ho3
  refine ops_step rfl rfl (sto_arr (r := [.ii g0, .ii b5, .ii a7, .ii a9, .ii a4, .ii a3, .str a2, .str a1, .str a0]) (cs := [.ii kk]) rfl rfl rfl rfl rfl ⟨_, _, rfl⟩ rfl rfl hzro rfl ho3) ?_
  refine oz ?_
  refine gs (gB (rn hA 1 ?_))
  obtain ⟨k4, wk4, c9, pk4, qk4⟩ := add_one hA p0 q0 hr0 e1
  refine ops_step rfl rfl (int_add hA rfl rfl rfl c9) ?_
  refine rn hA 1 (oz ?_)
  refine gs (gB (rn hA 3 ?_))
  have g7 : n5 < (List.length o3 : Int) := by rw [b9]; exact a5
  refine ops_step rfl rfl (idx_own rfl rfl rfl rfl rfl rfl h05 g7 rfl) ?_
  refine rn hA 2 ?_
  obtain ⟨o6, ho6⟩ : ∃ r, r = o3.set (Int.toNat n5) [.ii kk, .ii k4, .ii a7, .ii a9, .ii a4, .ii a3, .str a2, .str a1, .str a0] := ⟨_, rfl⟩
  have f0 := so_l ho6 b9
  have f2 := so_z ho6 c0
  have g6 := so_f ho6 d0
  refine ops_step rfl rfl (sto_arr (r := [.ii kk, .ii b5, .ii a7, .ii a9, .ii a4, .ii a3, .str a2, .str a1, .str a0]) (cs := [.ii k4]) rfl rfl rfl rfl rfl ⟨_, _, rfl⟩ rfl rfl c0 rfl ho6) ?_
  refine oz ?_
  refine gs (gB (rn hA 1 ?_))
  obtain ⟨k7, wk7, i0, pk7, qk7⟩ := add_one hA pk4 qk4 hr1 e2
  refine ops_step rfl rfl (int_add hA rfl rfl rfl i0) ?_
  refine rn hA 1 (oz ?_)
  refine gs (gB (rn hA 3 ?_))
  have k5 : n5 < (List.length o6 : Int) := by rw [f0]; exact a5
  refine ops_step rfl rfl (idx_own rfl rfl rfl rfl rfl rfl h05 k5 rfl) ?_
  refine rn hA 2 ?_
  obtain ⟨o9, ho9⟩ : ∃ r, r = o6.set (Int.toNat n5) [.ii kk, .ii k4, .ii k7, .ii a9, .ii a4, .ii a3, .str a2, .str a1, .str a0] := ⟨_, rfl⟩
  have g5 := so_l ho9 f0
  have g8 := so_z ho9 f2
  have k3 := so_f ho9 g6
  refine ops_step rfl rfl (sto_arr (r := [.ii kk, .ii k4, .ii a7, .ii a9, .ii a4, .ii a3, .str a2, .str a1, .str a0]) (cs := [.ii k7]) rfl rfl rfl rfl rfl ⟨_, _, rfl⟩ rfl rfl f2 rfl ho9) ?_
  refine oz ?_
  refine gs (gB (rn hA 1 ?_))
  obtain ⟨k10, k0, i2, i7, j1⟩ := add_one hA pk7 qk7 hr2 e3
  refine ops_step rfl rfl (int_add hA rfl rfl rfl i2) ?_
  refine rn hA 1 (oz ?_)
  refine gs (gB (rn hA 3 ?_))
  have i6 : n5 < (List.length o9 : Int) := by rw [g5]; exact a5
  refine ops_step rfl rfl (idx_own rfl rfl rfl rfl rfl rfl h05 i6 rfl) ?_
  refine rn hA 2 ?_
  obtain ⟨o12, f1⟩ : ∃ r, r = o9.set (Int.toNat n5) [.ii kk, .ii k4, .ii k7, .ii k10, .ii a4, .ii a3, .str a2, .str a1, .str a0] := ⟨_, rfl⟩
  have g3 := so_l f1 g5
  have g1 := so_z f1 g8
  have j0 := so_f f1 k3
  refine ops_step rfl rfl (sto_arr (r := [.ii kk, .ii k4, .ii k7, .ii a9, .ii a4, .ii a3, .str a2, .str a1, .str a0]) (cs := [.ii k10]) rfl rfl rfl rfl rfl ⟨_, _, rfl⟩ rfl rfl g8 rfl f1) ?_
  refine oz ?_
  refine gs (gB (rn hA 1 ?_))
  obtain ⟨k13, t9, p7, v4, u1⟩ := add_one hA i7 j1 hr3 e4
  refine ops_step rfl rfl (int_add hA rfl rfl rfl p7) ?_
  refine rn hA 1 (oz ?_)
  refine gs (gB (rn hA 3 ?_))
  have s1 : n5 < (List.length o12 : Int) := by rw [g3]; exact a5
  refine ops_step rfl rfl (idx_own rfl rfl rfl rfl rfl rfl h05 s1 rfl) ?_
  refine rn hA 2 ?_
  obtain ⟨o15, d9⟩ : ∃ r, r = o12.set (Int.toNat n5) [.ii kk, .ii k4, .ii k7, .ii k10, .ii k13, .ii a3, .str a2, .str a1, .str a0] := ⟨_, rfl⟩
  have j4 := so_l d9 g3
  have i5 := so_z d9 g1
  have j5 := so_f d9 j0
  refine ops_step rfl rfl (sto_arr (r := [.ii kk, .ii k4, .ii k7, .ii k10, .ii a4, .ii a3, .str a2, .str a1, .str a0]) (cs := [.ii k13]) rfl rfl rfl rfl rfl ⟨_, _, rfl⟩ rfl rfl g1 rfl d9) ?_
  refine oz ?_
  refine gs (gB (rn hA 1 ?_))
  obtain ⟨k16, v3, q7, v0, v8⟩ := add_one hA v4 u1 hr4 e5
  refine ops_step rfl rfl (int_add hA rfl rfl rfl q7) ?_
  refine rn hA 1 (oz ?_)
  refine gs (gB (rn hA 3 ?_))
  have t2 : n5 < (List.length o15 : Int) := by rw [j4]; exact a5
  refine ops_step rfl rfl (idx_own rfl rfl rfl rfl rfl rfl h05 t2 rfl) ?_
  refine rn hA 2 ?_
  obtain ⟨o18, i8⟩ : ∃ r, r = o15.set (Int.toNat n5) [.ii kk, .ii k4, .ii k7, .ii k10, .ii k13, .ii k16, .str a2, .str a1, .str a0] := ⟨_, rfl⟩
  have m1 := so_l i8 j4
  have l8 := so_z i8 i5
  have o2 := so_f i8 j5
  refine ops_step rfl rfl (sto_arr (r := [.ii kk, .ii k4, .ii k7, .ii k10, .ii k13, .ii a3, .str a2, .str a1, .str a0]) (cs := [.ii k16]) rfl rfl rfl rfl rfl ⟨_, _, rfl⟩ rfl rfl i5 rfl i8) ?_
  refine oz ?_
  refine gs (gB (rn hA 1 ?_))
  obtain ⟨k19, u2, p3, m9, o0⟩ := add_one hA v0 v8 hr5 e6
  refine ops_step rfl rfl (int_add hA rfl rfl rfl p3) ?_
  refine rn hA 1 (oz ?_)
  refine gs (gB (rn hA 3 ?_))
  obtain ⟨c3, m7, w0⟩ : ∃ (c3 : ByteArray), c3 = (mt k19) ∧ Real Tryz.prog 71 [.ii k19] (.str c3) := ⟨_, rfl, by exact r_laws_markText A hA k19 m9 (le_k o0 e6)⟩
  refine ops_callV rfl rfl (by cbv) (by cbv) w0 (.inr rfl) (by cbv) ?_
  have t0 : n5 < (List.length o18 : Int) := by rw [m1]; exact a5
  refine ops_step rfl rfl (idx_own rfl rfl rfl rfl rfl rfl h05 t0 rfl) ?_
  refine rn hA 2 ?_
  obtain ⟨o23, j6⟩ : ∃ r, r = o18.set (Int.toNat n5) [.ii kk, .ii k4, .ii k7, .ii k10, .ii k13, .ii k16, .str c3, .str a1, .str a0] := ⟨_, rfl⟩
  have l9 := so_l j6 m1
  have l4 := so_z j6 l8
  have s9 := so_f j6 o2
  refine ops_step rfl rfl (sto_arr (r := [.ii kk, .ii k4, .ii k7, .ii k10, .ii k13, .ii k16, .str a2, .str a1, .str a0]) (cs := [.str c3]) rfl rfl rfl rfl rfl ⟨_, _, rfl⟩ rfl rfl l8 rfl j6) ?_
  refine oz ?_
  refine gs (gB (rn hA 1 ?_))
  obtain ⟨k24, t8, q2, n0, n1⟩ := add_one hA m9 o0 hr6 e7
  refine ops_step rfl rfl (int_add hA rfl rfl rfl q2) ?_
  refine rn hA 1 (oz ?_)
  refine gs (gB (rn hA 3 ?_))
  obtain ⟨d1, m5, v7⟩ : ∃ (d1 : ByteArray), d1 = (mt k24) ∧ Real Tryz.prog 71 [.ii k24] (.str d1) := ⟨_, rfl, by exact r_laws_markText A hA k24 n0 (le_k n1 e7)⟩
  refine ops_callV rfl rfl (by cbv) (by cbv) v7 (.inr rfl) (by cbv) ?_
  have q9 : n5 < (List.length o23 : Int) := by rw [l9]; exact a5
  refine ops_step rfl rfl (idx_own rfl rfl rfl rfl rfl rfl h05 q9 rfl) ?_
  refine rn hA 2 ?_
  obtain ⟨o28, i3⟩ : ∃ r, r = o23.set (Int.toNat n5) [.ii kk, .ii k4, .ii k7, .ii k10, .ii k13, .ii k16, .str c3, .str d1, .str a0] := ⟨_, rfl⟩
  have m2 := so_l i3 l9
  have l6 := so_z i3 l4
  have o4 := so_f i3 s9
  refine ops_step rfl rfl (sto_arr (r := [.ii kk, .ii k4, .ii k7, .ii k10, .ii k13, .ii k16, .str c3, .str a1, .str a0]) (cs := [.str d1]) rfl rfl rfl rfl rfl ⟨_, _, rfl⟩ rfl rfl l4 rfl i3) ?_
  refine oz ?_
  refine gs (gB (rn hA 1 ?_))
  obtain ⟨k29, v5, t5, n2, n4⟩ := add_one hA n0 n1 hr7 e8
  refine ops_step rfl rfl (int_add hA rfl rfl rfl t5) ?_
  refine rn hA 1 (oz ?_)
  refine gs (gB (rn hA 3 ?_))
  obtain ⟨d5, m6, t6⟩ : ∃ (d5 : ByteArray), d5 = (mt k29) ∧ Real Tryz.prog 71 [.ii k29] (.str d5) := ⟨_, rfl, by exact r_laws_markText A hA k29 n2 (le_k n4 e8)⟩
  refine ops_callV rfl rfl (by cbv) (by cbv) t6 (.inr rfl) (by cbv) ?_
  have p9 : n5 < (List.length o28 : Int) := by rw [m2]; exact a5
  refine ops_step rfl rfl (idx_own rfl rfl rfl rfl rfl rfl h05 p9 rfl) ?_
  refine rn hA 2 ?_
  obtain ⟨o33, j7⟩ : ∃ r, r = o28.set (Int.toNat n5) [.ii kk, .ii k4, .ii k7, .ii k10, .ii k13, .ii k16, .str c3, .str d1, .str d5] := ⟨_, rfl⟩
  have w4 := so_l j7 m2
  have w3 := so_z j7 l6
  have q4 := so_f j7 o4
  refine ops_step rfl rfl (sto_arr (r := [.ii kk, .ii k4, .ii k7, .ii k10, .ii k13, .ii k16, .str c3, .str d1, .str a0]) (cs := [.str d5]) rfl rfl rfl rfl rfl ⟨_, _, rfl⟩ rfl rfl l6 rfl j7) ?_
  refine oz ?_
  refine gB (rn hA 1 ?_)
  obtain ⟨k34, v1, t1, x0, u9⟩ := add_one hA n2 n4 hr8 e9
  refine ops_step rfl rfl (int_add hA rfl rfl rfl t1) ?_
  refine rn hA 1 (oz ?_)
  refine gB (rn hA 1 ?_)
  refine rn hA 1 ?_
  refine rn hA 1 (oz ?_)
  refine ⟨(S158_1 hv k34 (A.num .add .i64 n5 1) o33), List.length x - (i + 1), ?_, by cbv, i + 1, o33, (A.num .add .i64 n5 1), k34, rfl, ?_, rfl⟩
  ·
   exact hdec
  have hrow : ([.ii kk, .ii k4, .ii k7, .ii k10, .ii k13, .ii k16, .str c3, .str d1, .str d5] : List PV) = eoItem (meItem kk (⟨g0, ⟨b5, a7, a9, a4, a3, a2, a1, a0⟩⟩ : GItem)) := by
   subst wk4 wk7 k0 t9 v3 u2 t8 v5 v1
   show _ = ([_, _, _, _, _, _, _, _, _] : List PV)
   exact congr (congrArg List.cons (congrArg (PV.int .i64) rfl)) (congr (congrArg List.cons (congrArg (PV.int .i64) rfl)) (congr (congrArg List.cons (congrArg (PV.int .i64) rfl)) (congr (congrArg List.cons (congrArg (PV.int .i64) rfl)) (congr (congrArg List.cons (congrArg (PV.int .i64) rfl)) (congr (congrArg List.cons (congrArg (PV.int .i64) rfl)) (congr (congrArg List.cons (congrArg PV.str m7)) (congr (congrArg List.cons (congrArg PV.str m5)) (congr (congrArg List.cons (congrArg PV.str m6)) (rfl)))))))))
  refine ⟨c4, hi1, fin_k u9 hr9 hrce hkk cat, ?_⟩
  rw [q4, hrow, b1, hn5, mkItemS_at k hyi, ← hkk]
  exact mark_set (hlen.symm.trans (Int.toNat_natCast i).symm)
 have ec1 : (A.rlen ro) ≤ n5 := lss_f hA c1
 refine go_exit ⟨fun _ => ?_, fun h => absurd rfl h⟩
 refine gs (gB (rn hA 2 (oz ?_)))
 refine go_ret ⟨⟨rfl, trivial⟩, Eq.trans (b := some [.ow 9 ro, .ii k]) (by cbv) ?_, _, by cbv, ?_⟩
 ·
  rw [hro, List.take_of_length_le (by omega), List.drop_of_length_le (by omega), List.append_nil]
 show _ = (PV.int .i64 kk)
 refine congrArg (PV.int .i64) ?_
 rw [hkk, List.take_of_length_le (by omega)]
def S118_1 (hv : Nat → Value) (p0 : Int) (p1 : Int) (p2 : RR) : St := { sl := [.own 1000000000, .ii p0, .bad, .bad, .bad, .ii p1, .bad, .bad, .bad, .bad, .bad, .bad, .bad, .bad, .bad, .bad, .bad, .bad, .bad, .bad, .bad, .bad, .bad, .bad, .bad, .bad, .bad, .bad, .bad, .bad, .bad, .bad, .bad, .bad, .bad, .bad, .bad, .bad, .bad, .bad, .bad], bl := [(1000000000, ⟨.arr, 4, p2⟩)], hd := [(1000000000, hv 1000000000)] }
theorem m_laws_markSegS (A : Alg) (hA : A = std) (x : List GSeg) (k : Int) (h0 : 0 ≤ k) (h1 : k + cnSegS x ≤ 1099511627776) : RealM Tryz.prog 118 [.ow 4 (List.map eoSeg x), .ii k] [.ow 4 (List.map eoSeg (mkSegS k x)), .ii k] (.ii (k + cnSegS x)) := by
 obtain ⟨x_r, a6⟩ := nm (x.map eoSeg)
 have f7 := rlen_map hA a6
 refine realM_args (args1 := [.ow 4 x_r, .ii k]) (by subst a6; rfl) rfl ?_
 have h2 : (List.length x : Int) ≤ 1099511627776 := by have := cnSegS_ge x; omega
 refine realM tyOk Tryz.func118 (by kernel_rfl) (afunM_of rfl (by cbv) (fun hv => ?_))
 refine gs (gB (rn hA 1 (oz ?_)))
 refine gs (gs (gB (rn hA 1 (oz ?_))))
 refine go_block ?_
 refine go_loopE (fun σ m => ∃ (i : Nat) (ro : RR) (n5 : Int) (kk : Int), σ = (S118_1 hv kk n5 ro) ∧ (n5 = (i : Int) ∧ i ≤ List.length x ∧ kk = k + cnSegS (x.take i) ∧ ro = List.map eoSeg (mkSegS k (x.take i) ++ x.drop i)) ∧ m = List.length x - i) _ [] [0, 1, 5] [1000000000] (S118_1 hv k 0 x_r) rfl (by cbv) ⟨0, x_r, 0, k, rfl, ?_, rfl⟩ (fun σ m hI => ?_)
 ·
  exact ⟨rfl, Nat.zero_le _, by simp [cnSegS], a6⟩
 obtain ⟨i, ro, n5, kk, rfl, ⟨hn5, hi, hkk, hro⟩, rfl⟩ := hI
 have hlro : (List.length ro : Int) = List.length x := by
  rw [hro]; simp only [List.length_map, List.length_append, mkSegS_len, List.length_take, List.length_drop]; omega
 have lro : A.rlen ro = (List.length x : Int) := by
  rw [rlen_map hA hro]; simp only [List.length_append, mkSegS_len, List.length_take, List.length_drop]; omega
 refine gs (gs (gB (rn hA 4 (oz ?_))))
 refine go_cond rfl (fun c1 => ?_) (fun c1 => ?_)
 ·
  have ec1 : n5 < (A.rlen ro) := lss_t hA c1
  refine gk (gs ?_)
  refine go_block ?_
  refine gs ?_
  have h05 : (0 : Int) ≤ n5 := by omega
  have hlt : Int.toNat n5 < List.length x := by omega
  obtain ⟨y, hy⟩ : ∃ y, x[Int.toNat n5]? = some y := ⟨_, List.getElem?_eq_getElem hlt⟩
  have hyi : x[i]? = some y := by have h := hy; rw [hn5] at h; exact h
  have cat := cnSegS_at hyi
  have cle := cnSegS_le x (i + 1)
  have cnn := cnSegS_nn (x.take i)
  have cce : ceSeg y = _ := rfl
  have b1 : ro = List.map eoSeg (mkSegS k (x.take i) ++ y :: x.drop (i + 1)) := by
   rw [hro, ← drop_at hyi]
  have b4 : ro[Int.toNat n5]? = some (eoSeg y) := by
   rw [b1, hn5]; exact mark_get (by rw [mkSegS_len, List.length_take]; omega)
  obtain ⟨g4, d8, d2, b6⟩ := y
  obtain ⟨b3, d6⟩ := nm (b6.map eoItem)
  have q6 := rlen_map hA d6
  have hzro : ro[Int.toNat n5]? = some [.ii g4, .ii d8, .ii d2, .ow 9 b3] := by subst d6; exact b4
  have f6 := cnItemS_nn b6
  have cce : ceSeg (⟨g4, d8, d2, b6⟩ : GSeg) = 1 + 1 + 1 + cnItemS b6 := rfl
  obtain ⟨r4, hr4, e4⟩ : ∃ r : Int, r = 0 ∧ 0 ≤ r := ⟨0, rfl, by decide⟩
  obtain ⟨r3, hr3, e3⟩ : ∃ r : Int, r = cnItemS b6 + r4 ∧ 0 ≤ r := ⟨_, rfl, nn_add f6 e4⟩
  obtain ⟨r2, hr2, e2⟩ : ∃ r : Int, r = 1 + r3 ∧ 0 ≤ r := ⟨_, rfl, nn_add (by decide) e3⟩
  obtain ⟨r1, hr1, e1⟩ : ∃ r : Int, r = 1 + r2 ∧ 0 ≤ r := ⟨_, rfl, nn_add (by decide) e2⟩
  obtain ⟨r0, hr0, e0⟩ : ∃ r : Int, r = 1 + r1 ∧ 0 ≤ r := ⟨_, rfl, nn_add (by decide) e1⟩
  have p0 : 0 ≤ kk := by clear hr4 e4 hr3 e3 hr2 e2 hr1 e1 hr0 e0; omega
  have hrce : r0 = ceSeg (⟨g4, d8, d2, b6⟩ : GSeg) := by subst hr4 hr3 hr2 hr1 hr0; rw [cce]; omega
  have q0 : kk + r0 ≤ 1099511627776 ∧ kk + r0 = kk + r0 := ⟨by clear hr4 e4 hr3 e3 hr2 e2 hr1 e1 hr0 e0; omega, rfl⟩
  have a5 : n5 < (List.length x : Int) := by clear hr4 e4 hr3 e3 hr2 e2 hr1 e1 hr0 e0; omega
  have hi1 : i + 1 ≤ List.length x := by clear hr4 e4 hr3 e3 hr2 e2 hr1 e1 hr0 e0; omega
  have c4 : A.num .add .i64 n5 1 = ((i + 1 : Nat) : Int) := by
   clear hr4 e4 hr3 e3 hr2 e2 hr1 e1 hr0 e0; rw [add_i64 hA (by omega) (by omega)]; omega
  have hlen : i = List.length (mkSegS k (x.take i)) := by rw [mkSegS_len, List.length_take]; clear hr4 e4 hr3 e3 hr2 e2 hr1 e1 hr0 e0; omega
  have hdec : List.length x - (i + 1) < List.length x - i := by clear hr4 e4 hr3 e3 hr2 e2 hr1 e1 hr0 e0; omega
  refine gB (rn hA 3 ?_)
  have c7 : n5 < (List.length ro : Int) := by rw [hlro]; exact a5
  refine ops_step rfl rfl (idx_own rfl rfl rfl rfl rfl rfl h05 c7 rfl) ?_
  refine rn hA 1 ?_
  obtain ⟨o3, ho3⟩ : ∃ r, r = ro.set (Int.toNat n5) [.ii kk, .ii d8, .ii d2, .ow 9 b3] := ⟨_, rfl⟩
  have b9 := so_l ho3 hlro
  have c0 := so_z ho3 hzro
  have d0 := ho3
  refine ops_step rfl rfl (sto_arr (r := [.ii g4, .ii d8, .ii d2, .ow 9 b3]) (cs := [.ii kk]) rfl rfl rfl rfl rfl ⟨_, _, rfl⟩ rfl rfl hzro rfl ho3) ?_
  refine oz ?_
  refine gs (gB (rn hA 1 ?_))
  obtain ⟨k4, wk4, c9, pk4, qk4⟩ := add_one hA p0 q0 hr0 e1
  refine ops_step rfl rfl (int_add hA rfl rfl rfl c9) ?_
  refine rn hA 1 (oz ?_)
  refine gs (gB (rn hA 3 ?_))
  have g7 : n5 < (List.length o3 : Int) := by rw [b9]; exact a5
  refine ops_step rfl rfl (idx_own rfl rfl rfl rfl rfl rfl h05 g7 rfl) ?_
  refine rn hA 1 ?_
  obtain ⟨o6, ho6⟩ : ∃ r, r = o3.set (Int.toNat n5) [.ii kk, .ii k4, .ii d2, .ow 9 b3] := ⟨_, rfl⟩
  have f0 := so_l ho6 b9
  have f2 := so_z ho6 c0
  have g6 := so_f ho6 d0
  refine ops_step rfl rfl (sto_arr (r := [.ii kk, .ii d8, .ii d2, .ow 9 b3]) (cs := [.ii k4]) rfl rfl rfl rfl rfl ⟨_, _, rfl⟩ rfl rfl c0 rfl ho6) ?_
  refine oz ?_
  refine gs (gB (rn hA 1 ?_))
  obtain ⟨k7, wk7, i0, pk7, qk7⟩ := add_one hA pk4 qk4 hr1 e2
  refine ops_step rfl rfl (int_add hA rfl rfl rfl i0) ?_
  refine rn hA 1 (oz ?_)
  refine gs (gB (rn hA 3 ?_))
  have k5 : n5 < (List.length o6 : Int) := by rw [f0]; exact a5
  refine ops_step rfl rfl (idx_own rfl rfl rfl rfl rfl rfl h05 k5 rfl) ?_
  refine rn hA 1 ?_
  obtain ⟨o9, ho9⟩ : ∃ r, r = o6.set (Int.toNat n5) [.ii kk, .ii k4, .ii k7, .ow 9 b3] := ⟨_, rfl⟩
  have g5 := so_l ho9 f0
  have g8 := so_z ho9 f2
  have k3 := so_f ho9 g6
  refine ops_step rfl rfl (sto_arr (r := [.ii kk, .ii k4, .ii d2, .ow 9 b3]) (cs := [.ii k7]) rfl rfl rfl rfl rfl ⟨_, _, rfl⟩ rfl rfl f2 rfl ho9) ?_
  refine oz ?_
  refine gs (gB (rn hA 1 ?_))
  obtain ⟨k10, k0, i2, i7, j1⟩ := add_one hA pk7 qk7 hr2 e3
  refine ops_step rfl rfl (int_add hA rfl rfl rfl i2) ?_
  refine rn hA 1 (oz ?_)
  refine gB (rn hA 2 ?_)
  have i6 : n5 < (List.length o9 : Int) := by rw [g5]; exact a5
  refine ops_step rfl rfl (idx_own rfl rfl rfl rfl rfl rfl h05 i6 rfl) ?_
  refine rn hA 1 ?_
  refine ops_nestR rfl rfl rfl rfl rfl rfl rfl g8 rfl rfl (fun w13 o12 f1 => ?_)
  have g3 := so_l f1 g5
  have g1 := so_z f1 g8
  have j0 := so_f f1 k3
  refine rn hA 1 ?_
  obtain ⟨f8, m14, j8, n7, o1⟩ : ∃ (f8 : RR) (m14 : Int), f8 = List.map eoItem (mkItemS k10 b6) ∧ m14 = k10 + cnItemS b6 ∧ RealM Tryz.prog 158 [.ow 9 b3, .ii k10] [.ow 9 f8, .ii k10] (.ii m14) := ⟨_, _, rfl, rfl, by subst d6; exact m_laws_markItemS A hA b6 k10 i7 (le_cn j1 hr3 e4)⟩
  have w1 := rlen_map hA j8
  have p4 := add_cn n7 i7 j1 hr3 f6
  refine ops_callM rfl (by cbv) (by cbv) (by cbv) o1 rfl (by cbv) ?_
  refine rn hA 1 ?_
  obtain ⟨o15, d9⟩ : ∃ r, r = o12.set (Int.toNat n5) [.ii kk, .ii k4, .ii k7, .ow 9 f8] := ⟨_, rfl⟩
  have j4 := so_l d9 g3
  have i5 := so_z d9 g1
  have j5 := so_f d9 j0
  refine ops_doneB (tweak_backR (D := 37) (d := 1000000000) (i := (Int.toNat n5)) (j := 3) rfl rfl rfl g1 rfl (by decide) d9 rfl) ?_
  refine gB (rn hA 1 ?_)
  refine rn hA 1 ?_
  refine rn hA 1 (oz ?_)
  refine ⟨(S118_1 hv m14 (A.num .add .i64 n5 1) o15), List.length x - (i + 1), ?_, by cbv, i + 1, o15, (A.num .add .i64 n5 1), m14, rfl, ?_, rfl⟩
  ·
   exact hdec
  have hrow : ([.ii kk, .ii k4, .ii k7, .ow 9 f8] : List PV) = eoSeg (meSeg kk (⟨g4, d8, d2, b6⟩ : GSeg)) := by
   subst wk4 wk7 k0 n7
   show _ = ([_, _, _, _] : List PV)
   exact congr (congrArg List.cons (congrArg (PV.int .i64) rfl)) (congr (congrArg List.cons (congrArg (PV.int .i64) rfl)) (congr (congrArg List.cons (congrArg (PV.int .i64) rfl)) (congr (congrArg List.cons (congrArg (PV.ow 9) j8)) (rfl))))
  refine ⟨c4, hi1, fin_k p4.2 hr4 hrce hkk cat, ?_⟩
  rw [j5, hrow, b1, hn5, mkSegS_at k hyi, ← hkk]
  exact mark_set (hlen.symm.trans (Int.toNat_natCast i).symm)
 have ec1 : (A.rlen ro) ≤ n5 := lss_f hA c1
 refine go_exit ⟨fun _ => ?_, fun h => absurd rfl h⟩
 refine gs (gB (rn hA 2 (oz ?_)))
 refine go_ret ⟨⟨rfl, trivial⟩, Eq.trans (b := some [.ow 4 ro, .ii k]) (by cbv) ?_, _, by cbv, ?_⟩
 ·
  rw [hro, List.take_of_length_le (by omega), List.drop_of_length_le (by omega), List.append_nil]
 show _ = (PV.int .i64 kk)
 refine congrArg (PV.int .i64) ?_
 rw [hkk, List.take_of_length_le (by omega)]
def S97_1 (hv : Nat → Value) (p0 : Int) (p1 : Int) (p2 : RR) : St := { sl := [.own 1000000000, .ii p0, .bad, .bad, .bad, .ii p1, .bad, .bad, .bad, .bad, .bad, .bad, .bad, .bad, .bad, .bad, .bad, .bad, .bad, .bad, .bad, .bad, .bad, .bad, .bad, .bad, .bad, .bad, .bad, .bad, .bad, .bad, .bad, .bad, .bad, .bad, .bad, .bad, .bad, .bad, .bad, .bad, .bad, .bad, .bad, .bad, .bad, .bad, .bad, .bad], bl := [(1000000000, ⟨.arr, 5, p2⟩)], hd := [(1000000000, hv 1000000000)] }
theorem m_laws_markBoxS (A : Alg) (hA : A = std) (x : List GBox) (k : Int) (h0 : 0 ≤ k) (h1 : k + cnBoxS x ≤ 1099511627776) : RealM Tryz.prog 97 [.ow 5 (List.map eoBox x), .ii k] [.ow 5 (List.map eoBox (mkBoxS k x)), .ii k] (.ii (k + cnBoxS x)) := by
 obtain ⟨x_r, a6⟩ := nm (x.map eoBox)
 have f7 := rlen_map hA a6
 refine realM_args (args1 := [.ow 5 x_r, .ii k]) (by subst a6; rfl) rfl ?_
 have h2 : (List.length x : Int) ≤ 1099511627776 := by have := cnBoxS_ge x; omega
 refine realM tyOk Tryz.func97 (by kernel_rfl) (afunM_of rfl (by cbv) (fun hv => ?_))
 refine gs (gB (rn hA 1 (oz ?_)))
 refine gs (gs (gB (rn hA 1 (oz ?_))))
 refine go_block ?_
 refine go_loopE (fun σ m => ∃ (i : Nat) (ro : RR) (n5 : Int) (kk : Int), σ = (S97_1 hv kk n5 ro) ∧ (n5 = (i : Int) ∧ i ≤ List.length x ∧ kk = k + cnBoxS (x.take i) ∧ ro = List.map eoBox (mkBoxS k (x.take i) ++ x.drop i)) ∧ m = List.length x - i) _ [] [0, 1, 5] [1000000000] (S97_1 hv k 0 x_r) rfl (by cbv) ⟨0, x_r, 0, k, rfl, ?_, rfl⟩ (fun σ m hI => ?_)
 ·
  exact ⟨rfl, Nat.zero_le _, by simp [cnBoxS], a6⟩
 obtain ⟨i, ro, n5, kk, rfl, ⟨hn5, hi, hkk, hro⟩, rfl⟩ := hI
 have hlro : (List.length ro : Int) = List.length x := by
  rw [hro]; simp only [List.length_map, List.length_append, mkBoxS_len, List.length_take, List.length_drop]; omega
 have lro : A.rlen ro = (List.length x : Int) := by
  rw [rlen_map hA hro]; simp only [List.length_append, mkBoxS_len, List.length_take, List.length_drop]; omega
 refine gs (gs (gB (rn hA 4 (oz ?_))))
 refine go_cond rfl (fun c1 => ?_) (fun c1 => ?_)
 ·
  have ec1 : n5 < (A.rlen ro) := lss_t hA c1
  refine gk (gs ?_)
  refine go_block ?_
  refine gs ?_
  have h05 : (0 : Int) ≤ n5 := by omega
  have hlt : Int.toNat n5 < List.length x := by omega
  obtain ⟨y, hy⟩ : ∃ y, x[Int.toNat n5]? = some y := ⟨_, List.getElem?_eq_getElem hlt⟩
  have hyi : x[i]? = some y := by have h := hy; rw [hn5] at h; exact h
  have cat := cnBoxS_at hyi
  have cle := cnBoxS_le x (i + 1)
  have cnn := cnBoxS_nn (x.take i)
  have cce : ceBox y = _ := rfl
  have b1 : ro = List.map eoBox (mkBoxS k (x.take i) ++ y :: x.drop (i + 1)) := by
   rw [hro, ← drop_at hyi]
  have b4 : ro[Int.toNat n5]? = some (eoBox y) := by
   rw [b1, hn5]; exact mark_get (by rw [mkBoxS_len, List.length_take]; omega)
  obtain ⟨d4, d3, c6, b8, b7⟩ := y
  obtain ⟨b0, d7⟩ := nm (b7.map eoMail)
  have p5 := rlen_map hA d7
  have hzro : ro[Int.toNat n5]? = some [.ii d4, .str d3, .str c6, .ii b8, .ow 3 b0] := by subst d7; exact b4
  have f5 := cnMailS_nn b7
  have cce : ceBox (⟨d4, d3, c6, b8, b7⟩ : GBox) = 1 + 1 + 1 + 1 + cnMailS b7 := rfl
  obtain ⟨r5, hr5, e5⟩ : ∃ r : Int, r = 0 ∧ 0 ≤ r := ⟨0, rfl, by decide⟩
  obtain ⟨r4, hr4, e4⟩ : ∃ r : Int, r = cnMailS b7 + r5 ∧ 0 ≤ r := ⟨_, rfl, nn_add f5 e5⟩
  obtain ⟨r3, hr3, e3⟩ : ∃ r : Int, r = 1 + r4 ∧ 0 ≤ r := ⟨_, rfl, nn_add (by decide) e4⟩
  obtain ⟨r2, hr2, e2⟩ : ∃ r : Int, r = 1 + r3 ∧ 0 ≤ r := ⟨_, rfl, nn_add (by decide) e3⟩
  obtain ⟨r1, hr1, e1⟩ : ∃ r : Int, r = 1 + r2 ∧ 0 ≤ r := ⟨_, rfl, nn_add (by decide) e2⟩
  obtain ⟨r0, hr0, e0⟩ : ∃ r : Int, r = 1 + r1 ∧ 0 ≤ r := ⟨_, rfl, nn_add (by decide) e1⟩
  have p0 : 0 ≤ kk := by clear hr5 e5 hr4 e4 hr3 e3 hr2 e2 hr1 e1 hr0 e0; omega
  have hrce : r0 = ceBox (⟨d4, d3, c6, b8, b7⟩ : GBox) := by subst hr5 hr4 hr3 hr2 hr1 hr0; rw [cce]; omega
  have q0 : kk + r0 ≤ 1099511627776 ∧ kk + r0 = kk + r0 := ⟨by clear hr5 e5 hr4 e4 hr3 e3 hr2 e2 hr1 e1 hr0 e0; omega, rfl⟩
  have a5 : n5 < (List.length x : Int) := by clear hr5 e5 hr4 e4 hr3 e3 hr2 e2 hr1 e1 hr0 e0; omega
  have hi1 : i + 1 ≤ List.length x := by clear hr5 e5 hr4 e4 hr3 e3 hr2 e2 hr1 e1 hr0 e0; omega
  have c4 : A.num .add .i64 n5 1 = ((i + 1 : Nat) : Int) := by
   clear hr5 e5 hr4 e4 hr3 e3 hr2 e2 hr1 e1 hr0 e0; rw [add_i64 hA (by omega) (by omega)]; omega
  have hlen : i = List.length (mkBoxS k (x.take i)) := by rw [mkBoxS_len, List.length_take]; clear hr5 e5 hr4 e4 hr3 e3 hr2 e2 hr1 e1 hr0 e0; omega
  have hdec : List.length x - (i + 1) < List.length x - i := by clear hr5 e5 hr4 e4 hr3 e3 hr2 e2 hr1 e1 hr0 e0; omega
  refine gB (rn hA 3 ?_)
  have c7 : n5 < (List.length ro : Int) := by rw [hlro]; exact a5
  refine ops_step rfl rfl (idx_own rfl rfl rfl rfl rfl rfl h05 c7 rfl) ?_
  refine rn hA 1 ?_
  obtain ⟨o3, ho3⟩ : ∃ r, r = ro.set (Int.toNat n5) [.ii kk, .str d3, .str c6, .ii b8, .ow 3 b0] := ⟨_, rfl⟩
  have b9 := so_l ho3 hlro
  have c0 := so_z ho3 hzro
  have d0 := ho3
  refine ops_step rfl rfl (sto_arr (r := [.ii d4, .str d3, .str c6, .ii b8, .ow 3 b0]) (cs := [.ii kk]) rfl rfl rfl rfl rfl ⟨_, _, rfl⟩ rfl rfl hzro rfl ho3) ?_
  refine oz ?_
  refine gs (gB (rn hA 1 ?_))
  obtain ⟨k4, wk4, c9, pk4, qk4⟩ := add_one hA p0 q0 hr0 e1
  refine ops_step rfl rfl (int_add hA rfl rfl rfl c9) ?_
  refine rn hA 1 (oz ?_)
  refine gs (gB (rn hA 3 ?_))
  obtain ⟨b2, g9, hc6⟩ : ∃ (b2 : ByteArray), b2 = (mt k4) ∧ Real Tryz.prog 71 [.ii k4] (.str b2) := ⟨_, rfl, by exact r_laws_markText A hA k4 pk4 (le_k qk4 e1)⟩
  refine ops_callV rfl rfl (by cbv) (by cbv) hc6 (.inr rfl) (by cbv) ?_
  have l1 : n5 < (List.length o3 : Int) := by rw [b9]; exact a5
  refine ops_step rfl rfl (idx_own rfl rfl rfl rfl rfl rfl h05 l1 rfl) ?_
  refine rn hA 1 ?_
  obtain ⟨o8, ho8⟩ : ∃ r, r = o3.set (Int.toNat n5) [.ii kk, .str b2, .str c6, .ii b8, .ow 3 b0] := ⟨_, rfl⟩
  have k2 := so_l ho8 b9
  have l0 := so_z ho8 c0
  have k8 := so_f ho8 d0
  refine ops_step rfl rfl (sto_arr (r := [.ii kk, .str d3, .str c6, .ii b8, .ow 3 b0]) (cs := [.str b2]) rfl rfl rfl rfl rfl ⟨_, _, rfl⟩ rfl rfl c0 rfl ho8) ?_
  refine oz ?_
  refine gs (gB (rn hA 1 ?_))
  obtain ⟨k9, wk9, l2, pk9, qk9⟩ := add_one hA pk4 qk4 hr1 e2
  refine ops_step rfl rfl (int_add hA rfl rfl rfl l2) ?_
  refine rn hA 1 (oz ?_)
  refine gs (gB (rn hA 3 ?_))
  obtain ⟨c5, m4, v6⟩ : ∃ (c5 : ByteArray), c5 = (mt k9) ∧ Real Tryz.prog 71 [.ii k9] (.str c5) := ⟨_, rfl, by exact r_laws_markText A hA k9 pk9 (le_k qk9 e2)⟩
  refine ops_callV rfl rfl (by cbv) (by cbv) v6 (.inr rfl) (by cbv) ?_
  have o7 : n5 < (List.length o8 : Int) := by rw [k2]; exact a5
  refine ops_step rfl rfl (idx_own rfl rfl rfl rfl rfl rfl h05 o7 rfl) ?_
  refine rn hA 1 ?_
  obtain ⟨o13, j3⟩ : ∃ r, r = o8.set (Int.toNat n5) [.ii kk, .str b2, .str c5, .ii b8, .ow 3 b0] := ⟨_, rfl⟩
  have l7 := so_l j3 k2
  have l3 := so_z j3 l0
  have q1 := so_f j3 k8
  refine ops_step rfl rfl (sto_arr (r := [.ii kk, .str b2, .str c6, .ii b8, .ow 3 b0]) (cs := [.str c5]) rfl rfl rfl rfl rfl ⟨_, _, rfl⟩ rfl rfl l0 rfl j3) ?_
  refine oz ?_
  refine gs (gB (rn hA 1 ?_))
  obtain ⟨k14, v2, t3, u5, v9⟩ := add_one hA pk9 qk9 hr2 e3
  refine ops_step rfl rfl (int_add hA rfl rfl rfl t3) ?_
  refine rn hA 1 (oz ?_)
  refine gs (gB (rn hA 3 ?_))
  have q3 : n5 < (List.length o13 : Int) := by rw [l7]; exact a5
  refine ops_step rfl rfl (idx_own rfl rfl rfl rfl rfl rfl h05 q3 rfl) ?_
  refine rn hA 1 ?_
  obtain ⟨o16, i4⟩ : ∃ r, r = o13.set (Int.toNat n5) [.ii kk, .str b2, .str c5, .ii k14, .ow 3 b0] := ⟨_, rfl⟩
  have l5 := so_l i4 l7
  have m3 := so_z i4 l3
  have s0 := so_f i4 q1
  refine ops_step rfl rfl (sto_arr (r := [.ii kk, .str b2, .str c5, .ii b8, .ow 3 b0]) (cs := [.ii k14]) rfl rfl rfl rfl rfl ⟨_, _, rfl⟩ rfl rfl l3 rfl i4) ?_
  refine oz ?_
  refine gs (gB (rn hA 1 ?_))
  obtain ⟨k17, u3, s8, n9, n3⟩ := add_one hA u5 v9 hr3 e4
  refine ops_step rfl rfl (int_add hA rfl rfl rfl s8) ?_
  refine rn hA 1 (oz ?_)
  refine gB (rn hA 2 ?_)
  have q8 : n5 < (List.length o16 : Int) := by rw [l5]; exact a5
  refine ops_step rfl rfl (idx_own rfl rfl rfl rfl rfl rfl h05 q8 rfl) ?_
  refine rn hA 1 ?_
  refine ops_nestR rfl rfl rfl rfl rfl rfl rfl m3 rfl rfl (fun w20 o19 k1 => ?_)
  have s2 := so_l k1 l5
  have m0 := so_z k1 m3
  have t4 := so_f k1 s0
  refine rn hA 1 ?_
  obtain ⟨f9, m21, j9, n8, p6⟩ : ∃ (f9 : RR) (m21 : Int), f9 = List.map eoMail (mkMailS k17 b7) ∧ m21 = k17 + cnMailS b7 ∧ RealM Tryz.prog 73 [.ow 3 b0, .ii k17] [.ow 3 f9, .ii k17] (.ii m21) := ⟨_, _, rfl, rfl, by subst d7; exact m_laws_markMailS A hA b7 k17 n9 (le_cn n3 hr4 e5)⟩
  have w2 := rlen_map hA j9
  have s6 := add_cn n8 n9 n3 hr4 f5
  refine ops_callM rfl (by cbv) (by cbv) (by cbv) p6 rfl (by cbv) ?_
  refine rn hA 1 ?_
  obtain ⟨o22, j2⟩ : ∃ r, r = o19.set (Int.toNat n5) [.ii kk, .str b2, .str c5, .ii k14, .ow 3 f9] := ⟨_, rfl⟩
  have w6 := so_l j2 s2
  have w7 := so_z j2 m0
  have s5 := so_f j2 t4
  refine ops_doneB (tweak_backR (D := 46) (d := 1000000000) (i := (Int.toNat n5)) (j := 4) rfl rfl rfl m0 rfl (by decide) j2 rfl) ?_
  refine gB (rn hA 1 ?_)
  refine rn hA 1 ?_
  refine rn hA 1 (oz ?_)
  refine ⟨(S97_1 hv m21 (A.num .add .i64 n5 1) o22), List.length x - (i + 1), ?_, by cbv, i + 1, o22, (A.num .add .i64 n5 1), m21, rfl, ?_, rfl⟩
  ·
   exact hdec
  have hrow : ([.ii kk, .str b2, .str c5, .ii k14, .ow 3 f9] : List PV) = eoBox (meBox kk (⟨d4, d3, c6, b8, b7⟩ : GBox)) := by
   subst wk4 wk9 v2 u3 n8
   show _ = ([_, _, _, _, _] : List PV)
   exact congr (congrArg List.cons (congrArg (PV.int .i64) rfl)) (congr (congrArg List.cons (congrArg PV.str g9)) (congr (congrArg List.cons (congrArg PV.str m4)) (congr (congrArg List.cons (congrArg (PV.int .i64) rfl)) (congr (congrArg List.cons (congrArg (PV.ow 3) j9)) (rfl)))))
  refine ⟨c4, hi1, fin_k s6.2 hr5 hrce hkk cat, ?_⟩
  rw [s5, hrow, b1, hn5, mkBoxS_at k hyi, ← hkk]
  exact mark_set (hlen.symm.trans (Int.toNat_natCast i).symm)
 have ec1 : (A.rlen ro) ≤ n5 := lss_f hA c1
 refine go_exit ⟨fun _ => ?_, fun h => absurd rfl h⟩
 refine gs (gB (rn hA 2 (oz ?_)))
 refine go_ret ⟨⟨rfl, trivial⟩, Eq.trans (b := some [.ow 5 ro, .ii k]) (by cbv) ?_, _, by cbv, ?_⟩
 ·
  rw [hro, List.take_of_length_le (by omega), List.drop_of_length_le (by omega), List.append_nil]
 show _ = (PV.int .i64 kk)
 refine congrArg (PV.int .i64) ?_
 rw [hkk, List.take_of_length_le (by omega)]
end Go.Av

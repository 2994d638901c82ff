/- Walks: marks. -/
import Derived.Test.YtjbokkoiicoahaaTm
namespace Go.Av
open Go Go.Proofs
set_option maxRecDepth 100000
set_option maxHeartbeats 4000000
set_option linter.unusedVariables false
set_option linter.unusedSimpArgs false
theorem mb_eq {A : Alg} (hA : A = std) {a b : Int} (h : a = b) : A.cmp .eql (A.num .rem .i64 a 3) 0 = mb b := by subst hA; subst h; rfl

theorem add_one {A : Alg} (hA : A = std) {k r s t : Int} (p : 0 ≤ k) (q : k + r ≤ 1099511627776 ∧ k + r = t) (hr : r = 1 + s) (e : 0 ≤ s) : ∃ v : Int, v = k + 1 ∧ A.num .add .i64 k 1 = v ∧ 0 ≤ v ∧ v + s ≤ 1099511627776 ∧ v + s = t := ⟨k + 1, rfl, add_i64 hA (by omega) (by omega), by omega, by omega, by omega⟩
theorem add_cn {k v c r s t : Int} (hv : v = k + c) (p : 0 ≤ k) (q : k + r ≤ 1099511627776 ∧ k + r = t) (hr : r = c + s) (n : 0 ≤ c) : 0 ≤ v ∧ v + s ≤ 1099511627776 ∧ v + s = t := ⟨by omega, by omega, by omega⟩
theorem le_cn {k c r s t : Int} (q : k + r ≤ 1099511627776 ∧ k + r = t) (hr : r = c + s) (e : 0 ≤ s) : k + c ≤ 1099511627776 := by omega
theorem le_k {k r t : Int} (q : k + r ≤ 1099511627776 ∧ k + r = t) (e : 0 ≤ r) : k ≤ 1099511627776 := by omega
theorem nn_add {a b : Int} (h : 0 ≤ a) (g : 0 ≤ b) : 0 ≤ a + b := by omega
theorem fin_k {kn rn kk r0 k c c' ce : Int} (h : kn + rn ≤ 1099511627776 ∧ kn + rn = kk + r0) (hn : rn = 0) (h0 : r0 = ce) (hkk : kk = k + c) (cat : c' = c + ce) : kn = k + c' := by omega

theorem tdiv10 {k : Int} (h : 0 ≤ k) : k.tdiv 10 = k / 10 := Int.tdiv_eq_ediv_of_nonneg h
theorem quo_i64 {A : Alg} (hA : A = std) {k : Int} (h1 : 0 ≤ k) (h2 : k ≤ 1099511627776) : A.num .quo .i64 k 10 = k / 10 := by
  subst hA
  have h : IntKind.i64.wrap (k.tdiv 10) = k.tdiv 10 := by
    rw [tdiv10 h1]; exact wrap_id (by omega) (by omega)
  rw [← tdiv10 h1]; exact h
theorem dig_eq {A : Alg} (hA : A = std) (k : Int) : A.ofB [[.int .u8 (A.cnv .u8 (A.num .add .i64 48 (A.num .rem .i64 k 10)))]] = dig k := by subst hA; rfl
theorem dig_size (k : Int) : (dig k).size = 1 := by simp [dig, strOfNums_size]
theorem mtGo_pos {k : Int} (out : ByteArray) (h : 0 < k) : mtGo k out = mtGo (k / 10) (dig k ++ out) := by rw [mtGo, dif_pos h, tdiv10 (by omega)]
theorem mtGo_zero {k : Int} (out : ByteArray) (h : k ≤ 0) : mtGo k out = out := by rw [mtGo, dif_neg (by omega)]

def S44_1 (p0 : Int) (p1 : ByteArray) : St := { sl := [.int .i64 p0, .bad, .bad, .str p1, .bad, .bad, .bad, .bad, .bad, .bad, .bad, .bad, .bad, .bad, .bad, .bad, .bad, .bad, .bad, .bad], bl := [] }
theorem r_laws_markText (A : Alg) (hA : A = std) (k : Int) (h0 : 0 ≤ k) (h1 : k ≤ 1099511627776) : Real Try.prog 44 [.int .i64 k] (.str (mt k)) := by
  refine real_args (args' := [.int .i64 k]) (by rfl) ?_
  refine real tyOk Try.func44 (by kernel_rfl) (afun_of rfl ?_)
  refine go_seq ?_
  refine go_reg ?_
  refine run_aops hA 1 _ _ _ _ (by cbv) ?_
  refine ops_done ?_
  refine go_seq ?_
  refine go_seq ?_
  refine go_reg ?_
  refine run_aops hA 2 _ _ _ _ (by cbv) ?_
  refine ops_done ?_
  refine go_cond rfl (fun c1 => ?_) (fun c1 => ?_)
  · skip
    have ec1 : k ≤ 0 := leq_t hA c1
    refine go_seq ?_
    refine go_reg ?_
    refine run_aops hA 1 _ _ _ _ (by cbv) ?_
    refine ops_done ?_
    refine go_ret ⟨_, by cbv, ?_⟩
    show _ = (PV.str (ByteArray.mk #[109, 48]))
    refine congrArg PV.str ?_
    rw [mt, if_pos (by omega)]
  · skip
    have ec1 : 0 < k := leq_f hA c1
    refine go_skip ?_
    refine go_seq ?_
    refine go_reg ?_
    refine run_aops hA 1 _ _ _ _ (by cbv) ?_
    refine ops_done ?_
    refine go_seq ?_
    refine go_block ?_
    refine go_loopE (fun σ m => ∃ (kk : Int) (out : ByteArray), σ = (S44_1 kk out) ∧ (0 ≤ kk ∧ kk ≤ 1099511627776 ∧ (ByteArray.size out : Int) + kk ≤ 1099511627776 ∧ mtGo k (ByteArray.mk #[]) = mtGo kk out) ∧ m = Int.toNat kk) _ [] [0, 3] [] (S44_1 k (ByteArray.mk #[])) rfl (by cbv) ⟨k, (ByteArray.mk #[]), rfl, ?_, rfl⟩ (fun σ m hI => ?_)
    · skip
      exact ⟨by omega, by omega, by show ((0 : Nat) : Int) + k ≤ _; omega, rfl⟩
    obtain ⟨kk, out, rfl, ⟨hk0, hk1, hs, hm⟩, rfl⟩ := hI
    refine go_seq ?_
    refine go_seq ?_
    refine go_reg ?_
    refine run_aops hA 2 _ _ _ _ (by cbv) ?_
    refine ops_done ?_
    refine go_cond rfl (fun c2 => ?_) (fun c2 => ?_)
    · skip
      have ec2 : 0 < kk := gtr_t hA c2
      refine go_skip ?_
      refine go_block ?_
      refine go_seq ?_
      refine go_reg ?_
      refine run_aops hA 7 _ _ _ _ (by cbv) ?_
      obtain ⟨s3, hs3⟩ : ∃ s : ByteArray, s = (A.ofB [[.int .u8 (A.cnv .u8 (A.num .add .i64 48 (A.num .rem .i64 kk 10)))]]) ++ out := ⟨_, rfl⟩
      have zs3 : ByteArray.size s3 = ByteArray.size (A.ofB [[.int .u8 (A.cnv .u8 (A.num .add .i64 48 (A.num .rem .i64 kk 10)))]]) + ByteArray.size out := by rw [hs3]; exact ByteArray.size_append
      have bs3 : ByteArray.size (A.ofB [[.int .u8 (A.cnv .u8 (A.num .add .i64 48 (A.num .rem .i64 kk 10)))]]) + ByteArray.size out ≤ 140737488355328 := by
        first
        | (rw [dig_eq hA, dig_size]; omega)
        | (show 1 + _ ≤ _; omega)
      refine ops_step rfl rfl (str_add rfl rfl rfl hs3 bs3) ?_
      refine run_aops hA 1 _ _ _ _ (by cbv) ?_
      refine ops_done ?_
      refine go_reg ?_
      refine run_aops hA 3 _ _ _ _ (by cbv) ?_
      refine ops_done ?_
      refine ⟨(S44_1 (A.num .quo .i64 kk 10) s3), Int.toNat (A.num .quo .i64 kk 10), ?_, by cbv, (A.num .quo .i64 kk 10), s3, rfl, ?_, rfl⟩
      · skip
        rw [quo_i64 hA (by omega) (by omega)]; omega
      · skip
        rw [quo_i64 hA (by omega) (by omega)]
        rw [dig_eq hA] at hs3 zs3
        rw [dig_size] at zs3
        exact ⟨by omega, by omega, by omega, by rw [hm, mtGo_pos _ (by omega), hs3]⟩
    · skip
      have ec2 : kk ≤ 0 := gtr_f hA c2
      refine go_exit ⟨fun _ => ?_, fun h => absurd rfl h⟩
      refine go_seq ?_
      refine go_reg ?_
      refine run_aops hA 1 _ _ _ _ (by cbv) ?_
      obtain ⟨s4, hs4⟩ : ∃ s : ByteArray, s = (ByteArray.mk #[109]) ++ out := ⟨_, rfl⟩
      have zs4 : ByteArray.size s4 = ByteArray.size (ByteArray.mk #[109]) + ByteArray.size out := by rw [hs4]; exact ByteArray.size_append
      have bs4 : ByteArray.size (ByteArray.mk #[109]) + ByteArray.size out ≤ 140737488355328 := by
        first
        | (rw [dig_eq hA, dig_size]; omega)
        | (show 1 + _ ≤ _; omega)
      refine ops_step rfl rfl (str_add rfl rfl rfl hs4 bs4) ?_
      refine run_aops hA 1 _ _ _ _ (by cbv) ?_
      refine ops_done ?_
      refine go_ret ⟨_, by cbv, ?_⟩
      show _ = (PV.str s4)
      refine congrArg PV.str ?_
      rw [mt, if_neg (by omega), hs4]; rw [hm, mtGo_zero _ (by omega)]

def S45_1 (hv : Nat → Value) (p0 : Int) (p1 : Int) (p2 : List (List PV)) : St := { sl := [.own 1000000000, .int .i64 p0, .bad, .bad, .bad, .int .i64 p1, .bad, .bad, .bad, .bad, .bad, .bad, .bad, .bad, .bad, .bad, .bad, .bad, .bad], bl := [(1000000000, ⟨.arr, 1, p2⟩)], hd := [(1000000000, hv 1000000000)] }
theorem m_laws_markIntS (A : Alg) (hA : A = std) (x : List Int) (k : Int) (h0 : 0 ≤ k) (h1 : k + cnIntS x ≤ 1099511627776) : RealM Try.prog 45 [.ow 1 (List.map eInt x), .int .i64 k] [.ow 1 (List.map eInt (mkIntS k x)), .int .i64 k] (.int .i64 (k + cnIntS x)) := by
  obtain ⟨x_r, hx_r⟩ : ∃ r, r = x.map eInt := ⟨_, rfl⟩
  have lx_r : A.rlen x_r = (List.length x : Int) := rlen_map hA hx_r
  refine realM_args (args1 := [.ow 1 x_r, .int .i64 k]) (by subst hx_r; rfl) rfl ?_
  have h2 : (List.length x : Int) ≤ 1099511627776 := by have := cnIntS_ge x; omega
  refine realM tyOk Try.func45 (by kernel_rfl) (afunM_of rfl (by cbv) (fun hv => ?_))
  refine go_seq ?_
  refine go_regB ?_
  refine run_aops hA 1 _ _ _ _ (by cbv) ?_
  refine ops_done0 ?_
  refine go_seq ?_
  refine go_seq ?_
  refine go_regB ?_
  refine run_aops hA 1 _ _ _ _ (by cbv) ?_
  refine ops_done0 ?_
  refine go_block ?_
  refine go_loopE (fun σ m => ∃ (i : Nat) (ro : List (List PV)) (n5 : Int) (kk : Int), σ = (S45_1 hv kk n5 ro) ∧ (n5 = (i : Int) ∧ i ≤ List.length x ∧ kk = k + cnIntS (x.take i) ∧ ro = List.map eInt (mkIntS k (x.take i) ++ x.drop i)) ∧ m = List.length x - i) _ [] [0, 1, 5] [1000000000] (S45_1 hv k 0 x_r) rfl (by cbv) ⟨0, x_r, 0, k, rfl, ?_, rfl⟩ (fun σ m hI => ?_)
  · skip
    exact ⟨rfl, Nat.zero_le _, by simp [cnIntS], hx_r⟩
  obtain ⟨i, ro, n5, kk, rfl, ⟨hn5, hi, hkk, hro⟩, rfl⟩ := hI
  have hlro : (List.length ro : Int) = List.length x := by
    rw [hro]; simp only [List.length_map, List.length_append, mkIntS_len, List.length_take, List.length_drop]; omega
  have lro : A.rlen ro = (List.length x : Int) := by
    rw [rlen_map hA hro]; simp only [List.length_append, mkIntS_len, List.length_take, List.length_drop]; omega
  refine go_seq ?_
  refine go_seq ?_
  refine go_regB ?_
  refine run_aops hA 4 _ _ _ _ (by cbv) ?_
  refine ops_done0 ?_
  refine go_cond rfl (fun c1 => ?_) (fun c1 => ?_)
  · skip
    have ec1 : n5 < (A.rlen ro) := lss_t hA c1
    refine go_skip ?_
    refine go_seq ?_
    refine go_block ?_
    refine go_seq ?_
    have h05 : (0 : Int) ≤ n5 := by omega
    have hlt : Int.toNat n5 < List.length x := by omega
    obtain ⟨y, hy⟩ : ∃ y, x[Int.toNat n5]? = some y := ⟨_, List.getElem?_eq_getElem hlt⟩
    have hyi : x[i]? = some y := by have h := hy; rw [hn5] at h; exact h
    have cat := cnIntS_at hyi
    have cle := cnIntS_le x (i + 1)
    have cnn := cnIntS_nn (x.take i)
    have cce : ceInt y = 1 := rfl
    have hro0 : ro = List.map eInt (mkIntS k (x.take i) ++ y :: x.drop (i + 1)) := by
      rw [hro, ← drop_at hyi]
    have hzro0 : ro[Int.toNat n5]? = some (eInt y) := by
      rw [hro0, hn5]; exact mark_get (by rw [mkIntS_len, List.length_take]; omega)
    have hzro : ro[Int.toNat n5]? = some [.int .i64 y] := by exact hzro0
    obtain ⟨r1, hr1, e1⟩ : ∃ r : Int, r = 0 ∧ 0 ≤ r := ⟨0, rfl, by decide⟩
    obtain ⟨r0, hr0, e0⟩ : ∃ r : Int, r = 1 + r1 ∧ 0 ≤ r := ⟨_, rfl, nn_add (by decide) e1⟩
    have p0 : 0 ≤ kk := by clear hr1 e1 hr0 e0; omega
    have hrce : r0 = ceInt y := by subst hr1 hr0; rw [cce]; omega
    have q0 : kk + r0 ≤ 1099511627776 ∧ kk + r0 = kk + r0 := ⟨by clear hr1 e1 hr0 e0; omega, rfl⟩
    have hn5x : n5 < (List.length x : Int) := by clear hr1 e1 hr0 e0; omega
    have hi1 : i + 1 ≤ List.length x := by clear hr1 e1 hr0 e0; omega
    have hn51 : A.num .add .i64 n5 1 = ((i + 1 : Nat) : Int) := by
      clear hr1 e1 hr0 e0; rw [add_i64 hA (by omega) (by omega)]; omega
    have hlen : i = List.length (mkIntS k (x.take i)) := by rw [mkIntS_len, List.length_take]; clear hr1 e1 hr0 e0; omega
    have hdec : List.length x - (i + 1) < List.length x - i := by clear hr1 e1 hr0 e0; omega
    refine go_regB ?_
    refine run_aops hA 3 _ _ _ _ (by cbv) ?_
    have hqj2 : n5 < (List.length ro : Int) := by rw [hlro]; exact hn5x
    refine ops_step rfl rfl (idx_own rfl rfl rfl rfl rfl rfl h05 hqj2 rfl) ?_
    obtain ⟨o3, ho3⟩ : ∃ r, r = ro.set (Int.toNat n5) [.int .i64 kk] := ⟨_, rfl⟩
    have go3 : o3 = ro.set (Int.toNat n5) [.int .i64 kk] := ho3
    have hlo3 : (List.length o3 : Int) = List.length x := by rw [go3, List.length_set]; exact hlro
    have hzo3 : o3[(Int.toNat n5)]? = some [.int .i64 kk] := by rw [go3]; exact set_self hzro
    have hfo3 : o3 = ro.set (Int.toNat n5) [.int .i64 kk] := go3
    refine ops_step rfl rfl (sto_arr (r := [.int .i64 y]) (cs := [.int .i64 kk]) rfl rfl rfl rfl rfl ⟨_, _, rfl⟩ rfl rfl hzro rfl ho3) ?_
    refine ops_done0 ?_
    refine go_regB ?_
    refine run_aops hA 1 _ _ _ _ (by cbv) ?_
    obtain ⟨k4, wk4, wak4, pk4, qk4⟩ := add_one hA p0 q0 hr0 e1
    refine ops_step rfl rfl (int_add hA rfl rfl rfl wak4) ?_
    refine run_aops hA 1 _ _ _ _ (by cbv) ?_
    refine ops_done0 ?_
    refine go_regB ?_
    refine run_aops hA 1 _ _ _ _ (by cbv) ?_
    refine run_aops hA 1 _ _ _ _ (by cbv) ?_
    refine run_aops hA 1 _ _ _ _ (by cbv) ?_
    refine ops_done0 ?_
    refine ⟨(S45_1 hv k4 (A.num .add .i64 n5 1) o3), List.length x - (i + 1), ?_, by cbv, i + 1, o3, (A.num .add .i64 n5 1), k4, rfl, ?_, rfl⟩
    · skip
      exact hdec
    · skip
      have hrow : ([.int .i64 kk] : List PV) = eInt (meInt kk y) := by
        subst wk4
        show _ = ([_] : List PV)
        exact congr (congrArg List.cons (congrArg (PV.int .i64) rfl)) (rfl)
      refine ⟨hn51, hi1, fin_k qk4 hr1 hrce hkk cat, ?_⟩
      rw [hfo3, hrow, hro0, hn5, mkIntS_at k hyi, ← hkk]
      exact mark_set (hlen.symm.trans (Int.toNat_natCast i).symm)
  · skip
    have ec1 : (A.rlen ro) ≤ n5 := lss_f hA c1
    refine go_exit ⟨fun _ => ?_, fun h => absurd rfl h⟩
    refine go_seq ?_
    refine go_regB ?_
    refine run_aops hA 2 _ _ _ _ (by cbv) ?_
    refine ops_done0 ?_
    refine go_ret ⟨⟨rfl, trivial⟩, Eq.trans (b := some [.ow 1 ro, .int .i64 k]) (by cbv) ?_, _, by cbv, ?_⟩
    · skip
      rw [hro, List.take_of_length_le (by omega), List.drop_of_length_le (by omega), List.append_nil]
    · skip
      show _ = (PV.int .i64 kk)
      refine congrArg (PV.int .i64) ?_
      rw [hkk, List.take_of_length_le (by omega)]

def S13_1 (hv : Nat → Value) (p0 : Int) (p1 : Int) (p2 : List (List PV)) : St := { sl := [.own 1000000000, .int .i64 p0, .bad, .bad, .bad, .int .i64 p1, .bad, .bad, .bad, .bad, .bad, .bad, .bad, .bad, .bad, .bad, .bad, .bad, .bad, .bad, .bad, .bad, .bad, .bad, .bad, .bad, .bad, .bad, .bad, .bad, .bad, .bad, .bad, .bad, .bad, .bad, .bad, .bad, .bad, .bad, .bad, .bad], bl := [(1000000000, ⟨.arr, 4, p2⟩)], hd := [(1000000000, hv 1000000000)] }
theorem m_laws_markEventS (A : Alg) (hA : A = std) (x : List GEvent) (k : Int) (h0 : 0 ≤ k) (h1 : k + cnEventS x ≤ 1099511627776) : RealM Try.prog 13 [.ow 4 (List.map eoEvent x), .int .i64 k] [.ow 4 (List.map eoEvent (mkEventS k x)), .int .i64 k] (.int .i64 (k + cnEventS x)) := by
  obtain ⟨x_r, hx_r⟩ : ∃ r, r = x.map eoEvent := ⟨_, rfl⟩
  have lx_r : A.rlen x_r = (List.length x : Int) := rlen_map hA hx_r
  refine realM_args (args1 := [.ow 4 x_r, .int .i64 k]) (by subst hx_r; rfl) rfl ?_
  have h2 : (List.length x : Int) ≤ 1099511627776 := by have := cnEventS_ge x; omega
  refine realM tyOk Try.func13 (by kernel_rfl) (afunM_of rfl (by cbv) (fun hv => ?_))
  refine go_seq ?_
  refine go_regB ?_
  refine run_aops hA 1 _ _ _ _ (by cbv) ?_
  refine ops_done0 ?_
  refine go_seq ?_
  refine go_seq ?_
  refine go_regB ?_
  refine run_aops hA 1 _ _ _ _ (by cbv) ?_
  refine ops_done0 ?_
  refine go_block ?_
  refine go_loopE (fun σ m => ∃ (i : Nat) (ro : List (List PV)) (n5 : Int) (kk : Int), σ = (S13_1 hv kk n5 ro) ∧ (n5 = (i : Int) ∧ i ≤ List.length x ∧ kk = k + cnEventS (x.take i) ∧ ro = List.map eoEvent (mkEventS k (x.take i) ++ x.drop i)) ∧ m = List.length x - i) _ [] [0, 1, 5] [1000000000] (S13_1 hv k 0 x_r) rfl (by cbv) ⟨0, x_r, 0, k, rfl, ?_, rfl⟩ (fun σ m hI => ?_)
  · skip
    exact ⟨rfl, Nat.zero_le _, by simp [cnEventS], hx_r⟩
  obtain ⟨i, ro, n5, kk, rfl, ⟨hn5, hi, hkk, hro⟩, rfl⟩ := hI
  have hlro : (List.length ro : Int) = List.length x := by
    rw [hro]; simp only [List.length_map, List.length_append, mkEventS_len, List.length_take, List.length_drop]; omega
  have lro : A.rlen ro = (List.length x : Int) := by
    rw [rlen_map hA hro]; simp only [List.length_append, mkEventS_len, List.length_take, List.length_drop]; omega
  refine go_seq ?_
  refine go_seq ?_
  refine go_regB ?_
  refine run_aops hA 4 _ _ _ _ (by cbv) ?_
  refine ops_done0 ?_
  refine go_cond rfl (fun c1 => ?_) (fun c1 => ?_)
  · skip
    have ec1 : n5 < (A.rlen ro) := lss_t hA c1
    refine go_skip ?_
    refine go_seq ?_
    refine go_block ?_
    refine go_seq ?_
    have h05 : (0 : Int) ≤ n5 := by omega
    have hlt : Int.toNat n5 < List.length x := by omega
    obtain ⟨y, hy⟩ : ∃ y, x[Int.toNat n5]? = some y := ⟨_, List.getElem?_eq_getElem hlt⟩
    have hyi : x[i]? = some y := by have h := hy; rw [hn5] at h; exact h
    have cat := cnEventS_at hyi
    have cle := cnEventS_le x (i + 1)
    have cnn := cnEventS_nn (x.take i)
    have cce : ceEvent y = _ := rfl
    have hro0 : ro = List.map eoEvent (mkEventS k (x.take i) ++ y :: x.drop (i + 1)) := by
      rw [hro, ← drop_at hyi]
    have hzro0 : ro[Int.toNat n5]? = some (eoEvent y) := by
      rw [hro0, hn5]; exact mark_get (by rw [mkEventS_len, List.length_take]; omega)
    obtain ⟨y_Kind, y_At, y_Text, y_Keep⟩ := y
    obtain ⟨y_Keep_r, hy_Keep_r⟩ : ∃ r, r = y_Keep.map eInt := ⟨_, rfl⟩
    have ly_Keep_r : A.rlen y_Keep_r = (List.length y_Keep : Int) := rlen_map hA hy_Keep_r
    have hzro : ro[Int.toNat n5]? = some [.int .i64 y_Kind, .int .i64 y_At, .str y_Text, .ow 1 y_Keep_r] := by subst hy_Keep_r; exact hzro0
    have nny_Keep_r := cnIntS_nn y_Keep
    have cce : ceEvent (⟨y_Kind, y_At, y_Text, y_Keep⟩ : GEvent) = 1 + 1 + 1 + cnIntS y_Keep := rfl
    obtain ⟨r4, hr4, e4⟩ : ∃ r : Int, r = 0 ∧ 0 ≤ r := ⟨0, rfl, by decide⟩
    obtain ⟨r3, hr3, e3⟩ : ∃ r : Int, r = cnIntS y_Keep + r4 ∧ 0 ≤ r := ⟨_, rfl, nn_add nny_Keep_r e4⟩
    obtain ⟨r2, hr2, e2⟩ : ∃ r : Int, r = 1 + r3 ∧ 0 ≤ r := ⟨_, rfl, nn_add (by decide) e3⟩
    obtain ⟨r1, hr1, e1⟩ : ∃ r : Int, r = 1 + r2 ∧ 0 ≤ r := ⟨_, rfl, nn_add (by decide) e2⟩
    obtain ⟨r0, hr0, e0⟩ : ∃ r : Int, r = 1 + r1 ∧ 0 ≤ r := ⟨_, rfl, nn_add (by decide) e1⟩
    have p0 : 0 ≤ kk := by clear hr4 e4 hr3 e3 hr2 e2 hr1 e1 hr0 e0; omega
    have hrce : r0 = ceEvent (⟨y_Kind, y_At, y_Text, y_Keep⟩ : GEvent) := by subst hr4 hr3 hr2 hr1 hr0; rw [cce]; omega
    have q0 : kk + r0 ≤ 1099511627776 ∧ kk + r0 = kk + r0 := ⟨by clear hr4 e4 hr3 e3 hr2 e2 hr1 e1 hr0 e0; omega, rfl⟩
    have hn5x : n5 < (List.length x : Int) := by clear hr4 e4 hr3 e3 hr2 e2 hr1 e1 hr0 e0; omega
    have hi1 : i + 1 ≤ List.length x := by clear hr4 e4 hr3 e3 hr2 e2 hr1 e1 hr0 e0; omega
    have hn51 : A.num .add .i64 n5 1 = ((i + 1 : Nat) : Int) := by
      clear hr4 e4 hr3 e3 hr2 e2 hr1 e1 hr0 e0; rw [add_i64 hA (by omega) (by omega)]; omega
    have hlen : i = List.length (mkEventS k (x.take i)) := by rw [mkEventS_len, List.length_take]; clear hr4 e4 hr3 e3 hr2 e2 hr1 e1 hr0 e0; omega
    have hdec : List.length x - (i + 1) < List.length x - i := by clear hr4 e4 hr3 e3 hr2 e2 hr1 e1 hr0 e0; omega
    refine go_regB ?_
    refine run_aops hA 3 _ _ _ _ (by cbv) ?_
    have hqj2 : n5 < (List.length ro : Int) := by rw [hlro]; exact hn5x
    refine ops_step rfl rfl (idx_own rfl rfl rfl rfl rfl rfl h05 hqj2 rfl) ?_
    refine run_aops hA 1 _ _ _ _ (by cbv) ?_
    obtain ⟨o3, ho3⟩ : ∃ r, r = ro.set (Int.toNat n5) [.int .i64 kk, .int .i64 y_At, .str y_Text, .ow 1 y_Keep_r] := ⟨_, rfl⟩
    have go3 : o3 = ro.set (Int.toNat n5) [.int .i64 kk, .int .i64 y_At, .str y_Text, .ow 1 y_Keep_r] := ho3
    have hlo3 : (List.length o3 : Int) = List.length x := by rw [go3, List.length_set]; exact hlro
    have hzo3 : o3[(Int.toNat n5)]? = some [.int .i64 kk, .int .i64 y_At, .str y_Text, .ow 1 y_Keep_r] := by rw [go3]; exact set_self hzro
    have hfo3 : o3 = ro.set (Int.toNat n5) [.int .i64 kk, .int .i64 y_At, .str y_Text, .ow 1 y_Keep_r] := go3
    refine ops_step rfl rfl (sto_arr (r := [.int .i64 y_Kind, .int .i64 y_At, .str y_Text, .ow 1 y_Keep_r]) (cs := [.int .i64 kk]) rfl rfl rfl rfl rfl ⟨_, _, rfl⟩ rfl rfl hzro rfl ho3) ?_
    refine ops_done0 ?_
    refine go_seq ?_
    refine go_regB ?_
    refine run_aops hA 1 _ _ _ _ (by cbv) ?_
    obtain ⟨k4, wk4, wak4, pk4, qk4⟩ := add_one hA p0 q0 hr0 e1
    refine ops_step rfl rfl (int_add hA rfl rfl rfl wak4) ?_
    refine run_aops hA 1 _ _ _ _ (by cbv) ?_
    refine ops_done0 ?_
    refine go_seq ?_
    refine go_regB ?_
    refine run_aops hA 3 _ _ _ _ (by cbv) ?_
    have hqj5 : n5 < (List.length o3 : Int) := by rw [hlo3]; exact hn5x
    refine ops_step rfl rfl (idx_own rfl rfl rfl rfl rfl rfl h05 hqj5 rfl) ?_
    refine run_aops hA 1 _ _ _ _ (by cbv) ?_
    obtain ⟨o6, ho6⟩ : ∃ r, r = o3.set (Int.toNat n5) [.int .i64 kk, .int .i64 k4, .str y_Text, .ow 1 y_Keep_r] := ⟨_, rfl⟩
    have go6 : o6 = o3.set (Int.toNat n5) [.int .i64 kk, .int .i64 k4, .str y_Text, .ow 1 y_Keep_r] := ho6
    have hlo6 : (List.length o6 : Int) = List.length x := by rw [go6, List.length_set]; exact hlo3
    have hzo6 : o6[(Int.toNat n5)]? = some [.int .i64 kk, .int .i64 k4, .str y_Text, .ow 1 y_Keep_r] := by rw [go6]; exact set_self hzo3
    have hfo6 : o6 = ro.set (Int.toNat n5) [.int .i64 kk, .int .i64 k4, .str y_Text, .ow 1 y_Keep_r] := by rw [go6, hfo3, List.set_set]
    refine ops_step rfl rfl (sto_arr (r := [.int .i64 kk, .int .i64 y_At, .str y_Text, .ow 1 y_Keep_r]) (cs := [.int .i64 k4]) rfl rfl rfl rfl rfl ⟨_, _, rfl⟩ rfl rfl hzo3 rfl ho6) ?_
    refine ops_done0 ?_
    refine go_seq ?_
    refine go_regB ?_
    refine run_aops hA 1 _ _ _ _ (by cbv) ?_
    obtain ⟨k7, wk7, wak7, pk7, qk7⟩ := add_one hA pk4 qk4 hr1 e2
    refine ops_step rfl rfl (int_add hA rfl rfl rfl wak7) ?_
    refine run_aops hA 1 _ _ _ _ (by cbv) ?_
    refine ops_done0 ?_
    refine go_seq ?_
    refine go_regB ?_
    refine run_aops hA 3 _ _ _ _ (by cbv) ?_
    obtain ⟨v29_8, hv29_8, hc9⟩ : ∃ (v29_8 : ByteArray), v29_8 = (mt k7) ∧ Real Try.prog 44 [.int .i64 k7] (.str v29_8) := ⟨_, rfl, by exact r_laws_markText A hA k7 pk7 (le_k qk7 e2)⟩
    refine ops_callV rfl rfl (by cbv) (by cbv) hc9 (.inr rfl) (by cbv) ?_
    have hqj10 : n5 < (List.length o6 : Int) := by rw [hlo6]; exact hn5x
    refine ops_step rfl rfl (idx_own rfl rfl rfl rfl rfl rfl h05 hqj10 rfl) ?_
    refine run_aops hA 1 _ _ _ _ (by cbv) ?_
    obtain ⟨o11, ho11⟩ : ∃ r, r = o6.set (Int.toNat n5) [.int .i64 kk, .int .i64 k4, .str v29_8, .ow 1 y_Keep_r] := ⟨_, rfl⟩
    have go11 : o11 = o6.set (Int.toNat n5) [.int .i64 kk, .int .i64 k4, .str v29_8, .ow 1 y_Keep_r] := ho11
    have hlo11 : (List.length o11 : Int) = List.length x := by rw [go11, List.length_set]; exact hlo6
    have hzo11 : o11[(Int.toNat n5)]? = some [.int .i64 kk, .int .i64 k4, .str v29_8, .ow 1 y_Keep_r] := by rw [go11]; exact set_self hzo6
    have hfo11 : o11 = ro.set (Int.toNat n5) [.int .i64 kk, .int .i64 k4, .str v29_8, .ow 1 y_Keep_r] := by rw [go11, hfo6, List.set_set]
    refine ops_step rfl rfl (sto_arr (r := [.int .i64 kk, .int .i64 k4, .str y_Text, .ow 1 y_Keep_r]) (cs := [.str v29_8]) rfl rfl rfl rfl rfl ⟨_, _, rfl⟩ rfl rfl hzo6 rfl ho11) ?_
    refine ops_done0 ?_
    refine go_seq ?_
    refine go_regB ?_
    refine run_aops hA 1 _ _ _ _ (by cbv) ?_
    obtain ⟨k12, wk12, wak12, pk12, qk12⟩ := add_one hA pk7 qk7 hr2 e3
    refine ops_step rfl rfl (int_add hA rfl rfl rfl wak12) ?_
    refine run_aops hA 1 _ _ _ _ (by cbv) ?_
    refine ops_done0 ?_
    refine go_regB ?_
    refine run_aops hA 2 _ _ _ _ (by cbv) ?_
    have hqj13 : n5 < (List.length o11 : Int) := by rw [hlo11]; exact hn5x
    refine ops_step rfl rfl (idx_own rfl rfl rfl rfl rfl rfl h05 hqj13 rfl) ?_
    refine run_aops hA 1 _ _ _ _ (by cbv) ?_
    refine ops_nestR rfl rfl rfl rfl rfl rfl rfl hzo11 rfl rfl (fun w15 o14 ho14 => ?_)
    have go14 : o14 = o11.set (Int.toNat n5) [.int .i64 kk, .int .i64 k4, .str v29_8, .raw w15] := ho14
    have hlo14 : (List.length o14 : Int) = List.length x := by rw [go14, List.length_set]; exact hlo11
    have hzo14 : o14[(Int.toNat n5)]? = some [.int .i64 kk, .int .i64 k4, .str v29_8, .raw w15] := by rw [go14]; exact set_self hzo11
    have hfo14 : o14 = ro.set (Int.toNat n5) [.int .i64 kk, .int .i64 k4, .str v29_8, .raw w15] := by rw [go14, hfo11, List.set_set]
    refine run_aops hA 1 _ _ _ _ (by cbv) ?_
    obtain ⟨m16_0, m16, hm16_0, hm16, hcm16⟩ : ∃ (m16_0 : List (List PV)) (m16 : Int), m16_0 = List.map eInt (mkIntS k12 y_Keep) ∧ m16 = k12 + cnIntS y_Keep ∧ RealM Try.prog 45 [.ow 1 y_Keep_r, .int .i64 k12] [.ow 1 m16_0, .int .i64 k12] (.int .i64 m16) := ⟨_, _, rfl, rfl, by subst hy_Keep_r; exact m_laws_markIntS A hA y_Keep k12 pk12 (le_cn qk12 hr3 e4)⟩
    have lm16_0 : A.rlen m16_0 = (List.length (mkIntS k12 y_Keep) : Int) := rlen_map hA hm16_0
    have pqm16 := add_cn hm16 pk12 qk12 hr3 nny_Keep_r
    refine ops_callM rfl (by cbv) (by cbv) (by cbv) hcm16 rfl (by cbv) ?_
    refine run_aops hA 1 _ _ _ _ (by cbv) ?_
    obtain ⟨o17, ho17⟩ : ∃ r, r = o14.set (Int.toNat n5) [.int .i64 kk, .int .i64 k4, .str v29_8, .ow 1 m16_0] := ⟨_, rfl⟩
    have go17 : o17 = o14.set (Int.toNat n5) [.int .i64 kk, .int .i64 k4, .str v29_8, .ow 1 m16_0] := ho17
    have hlo17 : (List.length o17 : Int) = List.length x := by rw [go17, List.length_set]; exact hlo14
    have hzo17 : o17[(Int.toNat n5)]? = some [.int .i64 kk, .int .i64 k4, .str v29_8, .ow 1 m16_0] := by rw [go17]; exact set_self hzo14
    have hfo17 : o17 = ro.set (Int.toNat n5) [.int .i64 kk, .int .i64 k4, .str v29_8, .ow 1 m16_0] := by rw [go17, hfo14, List.set_set]
    refine ops_doneB (tweak_backR (D := 38) (d := 1000000000) (i := (Int.toNat n5)) (j := 3) rfl rfl rfl hzo14 rfl (by decide) ho17 rfl) ?_
    refine go_regB ?_
    refine run_aops hA 1 _ _ _ _ (by cbv) ?_
    refine run_aops hA 1 _ _ _ _ (by cbv) ?_
    refine run_aops hA 1 _ _ _ _ (by cbv) ?_
    refine ops_done0 ?_
    refine ⟨(S13_1 hv m16 (A.num .add .i64 n5 1) o17), List.length x - (i + 1), ?_, by cbv, i + 1, o17, (A.num .add .i64 n5 1), m16, rfl, ?_, rfl⟩
    · skip
      exact hdec
    · skip
      have hrow : ([.int .i64 kk, .int .i64 k4, .str v29_8, .ow 1 m16_0] : List PV) = eoEvent (meEvent kk (⟨y_Kind, y_At, y_Text, y_Keep⟩ : GEvent)) := by
        subst wk4 wk7 wk12 hm16
        show _ = ([_, _, _, _] : List PV)
        exact congr (congrArg List.cons (congrArg (PV.int .i64) rfl)) (congr (congrArg List.cons (congrArg (PV.int .i64) rfl)) (congr (congrArg List.cons (congrArg PV.str hv29_8)) (congr (congrArg List.cons (congrArg (PV.ow 1) hm16_0)) (rfl))))
      refine ⟨hn51, hi1, fin_k pqm16.2 hr4 hrce hkk cat, ?_⟩
      rw [hfo17, hrow, hro0, hn5, mkEventS_at k hyi, ← hkk]
      exact mark_set (hlen.symm.trans (Int.toNat_natCast i).symm)
  · skip
    have ec1 : (A.rlen ro) ≤ n5 := lss_f hA c1
    refine go_exit ⟨fun _ => ?_, fun h => absurd rfl h⟩
    refine go_seq ?_
    refine go_regB ?_
    refine run_aops hA 2 _ _ _ _ (by cbv) ?_
    refine ops_done0 ?_
    refine go_ret ⟨⟨rfl, trivial⟩, Eq.trans (b := some [.ow 4 ro, .int .i64 k]) (by cbv) ?_, _, by cbv, ?_⟩
    · skip
      rw [hro, List.take_of_length_le (by omega), List.drop_of_length_le (by omega), List.append_nil]
    · skip
      show _ = (PV.int .i64 kk)
      refine congrArg (PV.int .i64) ?_
      rw [hkk, List.take_of_length_le (by omega)]

def S46_1 (p0 : List (List PV)) (p1 : Int) (p2 : Int) : St := { sl := [.sl 1 p0, .int .i64 p1, .bad, .bad, .bad, .int .i64 p2, .bad, .bad, .bad, .bad, .bad, .bad, .bad, .bad, .bad, .bad, .bad, .bad, .bad, .bad, .bad], bl := [] }
theorem r_laws_heldIntS (A : Alg) (hA : A = std) (x : List Int) (k : Int) (h0 : 0 ≤ k) (h1 : k + cnIntS x ≤ 1099511627776) : Real Try.prog 46 [.sl 1 (List.map eInt (mkIntS k x)), .int .i64 k] (.int .i64 (k + cnIntS x)) := by
  obtain ⟨a_r, ha_r⟩ : ∃ r, r = List.map eInt (mkIntS k x) := ⟨_, rfl⟩
  have la_r : A.rlen a_r = (List.length x : Int) := by rw [rlen_map hA ha_r, mkIntS_len]
  have h2 : (List.length x : Int) ≤ 1099511627776 := by have := cnIntS_ge x; omega
  refine real_args (args' := [.sl 1 a_r, .int .i64 k]) (by subst ha_r; rfl) ?_
  refine real tyOk Try.func46 (by kernel_rfl) (afun_of rfl ?_)
  refine go_seq ?_
  refine go_reg ?_
  refine run_aops hA 1 _ _ _ _ (by cbv) ?_
  refine ops_done ?_
  refine go_seq ?_
  refine go_seq ?_
  refine go_reg ?_
  refine run_aops hA 1 _ _ _ _ (by cbv) ?_
  refine ops_done ?_
  refine go_block ?_
  refine go_loopE (fun σ m => ∃ (i : Nat) (n5 : Int) (kk : Int), σ = (S46_1 a_r kk n5) ∧ (n5 = (i : Int) ∧ i ≤ List.length x ∧ kk = k + cnIntS (x.take i)) ∧ m = List.length x - i) _ [] [0, 1, 5] [] (S46_1 a_r k 0) rfl (by cbv) ⟨0, 0, k, rfl, ?_, rfl⟩ (fun σ m hI => ?_)
  · skip
    exact ⟨rfl, Nat.zero_le _, by simp [cnIntS]⟩
  obtain ⟨i, n5, kk, rfl, ⟨hn5, hi, hkk⟩, rfl⟩ := hI
  refine go_seq ?_
  refine go_seq ?_
  refine go_reg ?_
  refine run_aops hA 4 _ _ _ _ (by cbv) ?_
  refine ops_done ?_
  refine go_cond rfl (fun c1 => ?_) (fun c1 => ?_)
  · skip
    have ec1 : n5 < (A.rlen a_r) := lss_t hA c1
    refine go_skip ?_
    refine go_seq ?_
    refine go_block ?_
    refine go_seq ?_
    refine go_seq ?_
    have h05 : (0 : Int) ≤ n5 := by omega
    have hlt : i < List.length x := by omega
    obtain ⟨y, hyi⟩ : ∃ y, x[i]? = some y := ⟨_, List.getElem?_eq_getElem hlt⟩
    have cat := cnIntS_at hyi
    have cle := cnIntS_le x (i + 1)
    have cnn := cnIntS_nn (x.take i)
    have hro := mkIntS_get k hyi
    rw [← hkk] at hro
    have cce : ceInt y = 1 := rfl
    obtain ⟨r1, hr1, e1⟩ : ∃ r : Int, r = 0 ∧ 0 ≤ r := ⟨0, rfl, by decide⟩
    obtain ⟨r0, hr0, e0⟩ : ∃ r : Int, r = 1 + r1 ∧ 0 ≤ r := ⟨_, rfl, nn_add (by decide) e1⟩
    have p0 : 0 ≤ kk := by clear hr1 e1 hr0 e0; omega
    have hrce : r0 = ceInt y := by subst hr1 hr0; rw [cce]; omega
    have q0 : kk + r0 ≤ 1099511627776 ∧ kk + r0 = kk + r0 := ⟨by clear hr1 e1 hr0 e0; omega, rfl⟩
    have hn5x : n5 < (List.length x : Int) := by clear hr1 e1 hr0 e0; omega
    have hi1 : i + 1 ≤ List.length x := by clear hr1 e1 hr0 e0; omega
    have hn51 : A.num .add .i64 n5 1 = ((i + 1 : Nat) : Int) := by
      clear hr1 e1 hr0 e0; rw [add_i64 hA (by omega) (by omega)]; omega
    have hdec : List.length x - (i + 1) < List.length x - i := by clear hr1 e1 hr0 e0; omega
    obtain ⟨c_1, wc_1, wac_1, pc_1, qc_1⟩ := add_one hA p0 q0 hr0 e1
    have hrow : ([.int .i64 kk] : List PV) = eInt (meInt kk y) := by
      subst wc_1
      show _ = ([_] : List PV)
      exact congr (congrArg List.cons (congrArg (PV.int .i64) rfl)) (rfl)
    have hget : a_r[(Int.toNat n5)]? = some [.int .i64 kk] := by
      rw [hrow, hn5]; exact map_at eInt ha_r hro
    refine go_reg ?_
    refine run_aops hA 2 _ _ _ _ (by cbv) ?_
    refine ops_step rfl rfl (idx_sl rfl rfl rfl rfl rfl h05 rfl hget) ?_
    refine run_aops hA 3 _ _ _ _ (by cbv) ?_
    refine ops_done ?_
    refine go_cond rfl (fun c2 => ?_) (fun c2 => ?_)
    · skip
      exact absurd (show (A.cmp .neq kk kk) = true from c2) (by rw [show (A.cmp .neq kk kk) = false from by subst hA; simp [std]]; decide)
    · skip
      refine go_skip ?_
      refine go_reg ?_
      refine run_aops hA 1 _ _ _ _ (by cbv) ?_
      refine ops_step rfl rfl (int_add hA rfl rfl rfl wac_1) ?_
      refine run_aops hA 1 _ _ _ _ (by cbv) ?_
      refine ops_done ?_
      refine go_reg ?_
      refine run_aops hA 3 _ _ _ _ (by cbv) ?_
      refine ops_done ?_
      refine ⟨(S46_1 a_r c_1 (A.num .add .i64 n5 1)), List.length x - (i + 1), ?_, by cbv, i + 1, (A.num .add .i64 n5 1), c_1, rfl, ?_, rfl⟩
      · skip
        exact hdec
      · skip
        exact ⟨hn51, hi1, fin_k qc_1 hr1 hrce hkk cat⟩
  · skip
    have ec1 : (A.rlen a_r) ≤ n5 := lss_f hA c1
    refine go_exit ⟨fun _ => ?_, fun h => absurd rfl h⟩
    refine go_seq ?_
    refine go_reg ?_
    refine run_aops hA 2 _ _ _ _ (by cbv) ?_
    refine ops_done ?_
    refine go_ret ⟨_, by cbv, ?_⟩
    show _ = (PV.int .i64 kk)
    refine congrArg (PV.int .i64) ?_
    rw [hkk, List.take_of_length_le (by omega)]

def S14_1 (p0 : List (List PV)) (p1 : Int) (p2 : Int) : St := { sl := [.sl 4 p0, .int .i64 p1, .bad, .bad, .bad, .int .i64 p2, .bad, .bad, .bad, .bad, .bad, .bad, .bad, .bad, .bad, .bad, .bad, .bad, .bad, .bad, .bad, .bad, .bad, .bad, .bad, .bad, .bad, .bad, .bad, .bad, .bad, .bad, .bad, .bad, .bad, .bad, .bad, .bad, .bad, .bad, .bad, .bad, .bad, .bad, .bad, .bad, .bad, .bad, .bad, .bad], bl := [] }
theorem r_laws_heldEventS (A : Alg) (hA : A = std) (x : List GEvent) (k : Int) (h0 : 0 ≤ k) (h1 : k + cnEventS x ≤ 1099511627776) : Real Try.prog 14 [.sl 4 (List.map eEvent (mkEventS k x)), .int .i64 k] (.int .i64 (k + cnEventS x)) := by
  obtain ⟨a_r, ha_r⟩ : ∃ r, r = List.map eEvent (mkEventS k x) := ⟨_, rfl⟩
  have la_r : A.rlen a_r = (List.length x : Int) := by rw [rlen_map hA ha_r, mkEventS_len]
  have h2 : (List.length x : Int) ≤ 1099511627776 := by have := cnEventS_ge x; omega
  refine real_args (args' := [.sl 4 a_r, .int .i64 k]) (by subst ha_r; rfl) ?_
  refine real tyOk Try.func14 (by kernel_rfl) (afun_of rfl ?_)
  refine go_seq ?_
  refine go_reg ?_
  refine run_aops hA 1 _ _ _ _ (by cbv) ?_
  refine ops_done ?_
  refine go_seq ?_
  refine go_seq ?_
  refine go_reg ?_
  refine run_aops hA 1 _ _ _ _ (by cbv) ?_
  refine ops_done ?_
  refine go_block ?_
  refine go_loopE (fun σ m => ∃ (i : Nat) (n5 : Int) (kk : Int), σ = (S14_1 a_r kk n5) ∧ (n5 = (i : Int) ∧ i ≤ List.length x ∧ kk = k + cnEventS (x.take i)) ∧ m = List.length x - i) _ [] [0, 1, 5] [] (S14_1 a_r k 0) rfl (by cbv) ⟨0, 0, k, rfl, ?_, rfl⟩ (fun σ m hI => ?_)
  · skip
    exact ⟨rfl, Nat.zero_le _, by simp [cnEventS]⟩
  obtain ⟨i, n5, kk, rfl, ⟨hn5, hi, hkk⟩, rfl⟩ := hI
  refine go_seq ?_
  refine go_seq ?_
  refine go_reg ?_
  refine run_aops hA 4 _ _ _ _ (by cbv) ?_
  refine ops_done ?_
  refine go_cond rfl (fun c1 => ?_) (fun c1 => ?_)
  · skip
    have ec1 : n5 < (A.rlen a_r) := lss_t hA c1
    refine go_skip ?_
    refine go_seq ?_
    refine go_block ?_
    refine go_seq ?_
    refine go_seq ?_
    have h05 : (0 : Int) ≤ n5 := by omega
    have hlt : i < List.length x := by omega
    obtain ⟨y, hyi⟩ : ∃ y, x[i]? = some y := ⟨_, List.getElem?_eq_getElem hlt⟩
    have cat := cnEventS_at hyi
    have cle := cnEventS_le x (i + 1)
    have cnn := cnEventS_nn (x.take i)
    have hro := mkEventS_get k hyi
    rw [← hkk] at hro
    obtain ⟨y_Kind, y_At, y_Text, y_Keep⟩ := y
    have cce : ceEvent (⟨y_Kind, y_At, y_Text, y_Keep⟩ : GEvent) = 1 + 1 + 1 + cnIntS y_Keep := rfl
    have nny_Keep := cnIntS_nn y_Keep
    obtain ⟨r4, hr4, e4⟩ : ∃ r : Int, r = 0 ∧ 0 ≤ r := ⟨0, rfl, by decide⟩
    obtain ⟨r3, hr3, e3⟩ : ∃ r : Int, r = cnIntS y_Keep + r4 ∧ 0 ≤ r := ⟨_, rfl, nn_add nny_Keep e4⟩
    obtain ⟨r2, hr2, e2⟩ : ∃ r : Int, r = 1 + r3 ∧ 0 ≤ r := ⟨_, rfl, nn_add (by decide) e3⟩
    obtain ⟨r1, hr1, e1⟩ : ∃ r : Int, r = 1 + r2 ∧ 0 ≤ r := ⟨_, rfl, nn_add (by decide) e2⟩
    obtain ⟨r0, hr0, e0⟩ : ∃ r : Int, r = 1 + r1 ∧ 0 ≤ r := ⟨_, rfl, nn_add (by decide) e1⟩
    have p0 : 0 ≤ kk := by clear hr4 e4 hr3 e3 hr2 e2 hr1 e1 hr0 e0; omega
    have hrce : r0 = ceEvent (⟨y_Kind, y_At, y_Text, y_Keep⟩ : GEvent) := by subst hr4 hr3 hr2 hr1 hr0; rw [cce]; omega
    have q0 : kk + r0 ≤ 1099511627776 ∧ kk + r0 = kk + r0 := ⟨by clear hr4 e4 hr3 e3 hr2 e2 hr1 e1 hr0 e0; omega, rfl⟩
    have hn5x : n5 < (List.length x : Int) := by clear hr4 e4 hr3 e3 hr2 e2 hr1 e1 hr0 e0; omega
    have hi1 : i + 1 ≤ List.length x := by clear hr4 e4 hr3 e3 hr2 e2 hr1 e1 hr0 e0; omega
    have hn51 : A.num .add .i64 n5 1 = ((i + 1 : Nat) : Int) := by
      clear hr4 e4 hr3 e3 hr2 e2 hr1 e1 hr0 e0; rw [add_i64 hA (by omega) (by omega)]; omega
    have hdec : List.length x - (i + 1) < List.length x - i := by clear hr4 e4 hr3 e3 hr2 e2 hr1 e1 hr0 e0; omega
    obtain ⟨c_1, wc_1, wac_1, pc_1, qc_1⟩ := add_one hA p0 q0 hr0 e1
    obtain ⟨c_2, wc_2, wac_2, pc_2, qc_2⟩ := add_one hA pc_1 qc_1 hr1 e2
    obtain ⟨s_2, hs_2⟩ : ∃ s : ByteArray, s = mt c_2 := ⟨_, rfl⟩
    obtain ⟨c_3, wc_3, wac_3, pc_3, qc_3⟩ := add_one hA pc_2 qc_2 hr2 e3
    obtain ⟨s_3, hs_3⟩ : ∃ r : List (List PV), r = List.map eInt (mkIntS c_3 y_Keep) := ⟨_, rfl⟩
    have ls_3 : A.rlen s_3 = (List.length y_Keep : Int) := by rw [rlen_map hA hs_3, mkIntS_len]
    obtain ⟨c_4, hc_4⟩ : ∃ q : Int, q = c_3 + cnIntS y_Keep := ⟨_, rfl⟩
    have pqc_4 := add_cn hc_4 pc_3 qc_3 hr3 nny_Keep
    have hrow : ([.int .i64 kk, .int .i64 c_1, .str s_2, .sl 1 s_3] : List PV) = eEvent (meEvent kk (⟨y_Kind, y_At, y_Text, y_Keep⟩ : GEvent)) := by
      subst wc_1 wc_2 wc_3 hc_4
      show _ = ([_, _, _, _] : List PV)
      exact congr (congrArg List.cons (congrArg (PV.int .i64) rfl)) (congr (congrArg List.cons (congrArg (PV.int .i64) rfl)) (congr (congrArg List.cons (congrArg PV.str hs_2)) (congr (congrArg List.cons (congrArg (PV.sl 1) hs_3)) (rfl))))
    have hget : a_r[(Int.toNat n5)]? = some [.int .i64 kk, .int .i64 c_1, .str s_2, .sl 1 s_3] := by
      rw [hrow, hn5]; exact map_at eEvent ha_r hro
    refine go_reg ?_
    refine run_aops hA 2 _ _ _ _ (by cbv) ?_
    refine ops_step rfl rfl (idx_sl rfl rfl rfl rfl rfl h05 rfl hget) ?_
    refine run_aops hA 4 _ _ _ _ (by cbv) ?_
    refine ops_done ?_
    refine go_cond rfl (fun c2 => ?_) (fun c2 => ?_)
    · skip
      exact absurd (show (A.cmp .neq kk kk) = true from c2) (by rw [show (A.cmp .neq kk kk) = false from by subst hA; simp [std]]; decide)
    · skip
      refine go_skip ?_
      refine go_seq ?_
      refine go_reg ?_
      refine run_aops hA 1 _ _ _ _ (by cbv) ?_
      refine ops_step rfl rfl (int_add hA rfl rfl rfl wac_1) ?_
      refine run_aops hA 1 _ _ _ _ (by cbv) ?_
      refine ops_done ?_
      refine go_seq ?_
      refine go_seq ?_
      refine go_reg ?_
      refine run_aops hA 2 _ _ _ _ (by cbv) ?_
      refine ops_step rfl rfl (idx_sl rfl rfl rfl rfl rfl h05 rfl hget) ?_
      refine run_aops hA 4 _ _ _ _ (by cbv) ?_
      refine ops_done ?_
      refine go_cond rfl (fun c3 => ?_) (fun c3 => ?_)
      · skip
        exact absurd (show (A.cmp .neq c_1 c_1) = true from c3) (by rw [show (A.cmp .neq c_1 c_1) = false from by subst hA; simp [std]]; decide)
      · skip
        refine go_skip ?_
        refine go_seq ?_
        refine go_reg ?_
        refine run_aops hA 1 _ _ _ _ (by cbv) ?_
        refine ops_step rfl rfl (int_add hA rfl rfl rfl wac_2) ?_
        refine run_aops hA 1 _ _ _ _ (by cbv) ?_
        refine ops_done ?_
        refine go_seq ?_
        refine go_seq ?_
        refine go_draw (by cbv) ?_
        refine run_dops hA 2 _ _ _ _ (by cbv) ?_
        refine dops_step rfl rfl rfl (idx_sl rfl rfl rfl rfl rfl h05 rfl hget) ?_
        refine run_dops hA 3 _ _ _ _ (by cbv) ?_
        obtain ⟨v36_4, hv36_4, hc5⟩ : ∃ (v36_4 : ByteArray), v36_4 = (mt c_2) ∧ Real Try.prog 44 [.int .i64 c_2] (.str v36_4) := ⟨_, rfl, by exact r_laws_markText A hA c_2 pc_2 (le_k qc_2 e2)⟩
        refine dops_callV rfl rfl (by cbv) (by cbv) hc5 (.inr rfl) ?_
        refine run_dops hA 1 _ _ _ _ (by cbv) ?_
        refine dops_done ?_
        refine go_cond rfl (fun c6 => ?_) (fun c6 => ?_)
        · skip
          exact absurd (show (A.scmp .neq s_2 v36_4) = true from c6) (by rw [show (A.scmp .neq s_2 v36_4) = false from by subst hA; simp [std, hs_2, hv36_4]]; decide)
        · skip
          refine go_skip ?_
          refine go_seq ?_
          refine go_reg ?_
          refine run_aops hA 1 _ _ _ _ (by cbv) ?_
          refine ops_step rfl rfl (int_add hA rfl rfl rfl wac_3) ?_
          refine run_aops hA 1 _ _ _ _ (by cbv) ?_
          refine ops_done ?_
          refine go_seq ?_
          refine go_reg ?_
          refine run_aops hA 2 _ _ _ _ (by cbv) ?_
          refine ops_step rfl rfl (idx_sl rfl rfl rfl rfl rfl h05 rfl hget) ?_
          refine run_aops hA 3 _ _ _ _ (by cbv) ?_
          have hc8 : Real Try.prog 46 [.sl 1 s_3, .int .i64 c_3] (.int .i64 c_4) := by
            subst hs_3; rw [hc_4]; exact r_laws_heldIntS A hA y_Keep c_3 pc_3 (le_cn qc_3 hr3 e4)
          refine ops_callV rfl rfl (by cbv) (by cbv) hc8 (.inl trivial) (by cbv) ?_
          refine run_aops hA 1 _ _ _ _ (by cbv) ?_
          refine ops_done ?_
          refine go_seq ?_
          refine go_reg ?_
          refine run_aops hA 2 _ _ _ _ (by cbv) ?_
          refine ops_done ?_
          refine go_cond rfl (fun c9 => ?_) (fun c9 => ?_)
          · skip
            have ec9 : c_4 < 0 := lss_t hA c9
            exact absurd ec9 (Int.not_lt.2 pqc_4.1)
          · skip
            have ec9 : 0 ≤ c_4 := lss_f hA c9
            refine go_skip ?_
            refine go_reg ?_
            refine run_aops hA 3 _ _ _ _ (by cbv) ?_
            refine ops_done ?_
            refine ⟨(S14_1 a_r c_4 (A.num .add .i64 n5 1)), List.length x - (i + 1), ?_, by cbv, i + 1, (A.num .add .i64 n5 1), c_4, rfl, ?_, rfl⟩
            · skip
              exact hdec
            · skip
              exact ⟨hn51, hi1, fin_k pqc_4.2 hr4 hrce hkk cat⟩
  · skip
    have ec1 : (A.rlen a_r) ≤ n5 := lss_f hA c1
    refine go_exit ⟨fun _ => ?_, fun h => absurd rfl h⟩
    refine go_seq ?_
    refine go_reg ?_
    refine run_aops hA 2 _ _ _ _ (by cbv) ?_
    refine ops_done ?_
    refine go_ret ⟨_, by cbv, ?_⟩
    show _ = (PV.int .i64 kk)
    refine congrArg (PV.int .i64) ?_
    rw [hkk, List.take_of_length_le (by omega)]
end Go.Av

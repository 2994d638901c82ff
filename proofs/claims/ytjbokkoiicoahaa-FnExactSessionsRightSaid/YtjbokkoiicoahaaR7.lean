/- Walks: eq of worlds. -/
import Derived.Test.YtjbokkoiicoahaaTy
namespace Go.Av
open Go Go.Proofs
set_option maxRecDepth 100000
set_option maxHeartbeats 4000000
set_option linter.unusedVariables false
set_option linter.unusedSimpArgs false
def S35_1 (p0 : List (List PV)) (p1 : Int) : St := { sl := [.sl 1 p0, .sl 1 p0, .bad, .bad, .bad, .int .i64 p1, .bad, .bad, .bad, .bad, .bad, .bad, .bad, .bad, .bad, .bad, .bad, .bad, .bad, .bad, .bad, .bad, .bad, .bad, .bad, .bad], bl := [] }
theorem r_laws_eqStringS (A : Alg) (hA : A = std) (xs : List ByteArray) (hk : ∀ k ∈ zsStringS xs, (k : Int) ≤ 4611686018427387904) : Real Try.prog 35 [.sl 1 (List.map eString xs), .sl 1 (List.map eString xs)] (.bool true) := by
  obtain ⟨xs_r, hxs_r⟩ : ∃ r, r = xs.map eString := ⟨_, rfl⟩
  have lxs_r : A.rlen xs_r = (List.length xs : Int) := rlen_map hA hxs_r
  refine real_args (args' := [.sl 1 xs_r, .sl 1 xs_r]) (by subst hxs_r; rfl) ?_
  have hlen : (List.length xs : Int) ≤ 4611686018427387904 := hk _ (by simp [zsStringS])
  refine real tyOk Try.func35 (by kernel_rfl) (afun_of rfl ?_)
  refine go_seq ?_
  refine go_reg ?_
  refine run_aops hA 1 _ _ _ _ (by cbv) ?_
  refine ops_done ?_
  refine go_seq ?_
  refine go_seq ?_
  refine go_reg ?_
  refine run_aops hA 5 _ _ _ _ (by cbv) ?_
  refine ops_done ?_
  refine go_cond rfl (fun c1 => ?_) (fun c1 => ?_)
  · skip
    exact absurd (show (A.cmp .neq (A.rlen xs_r) (A.rlen xs_r)) = true from c1) (by rw [show (A.cmp .neq (A.rlen xs_r) (A.rlen xs_r)) = false from by subst hA; simp [std]]; decide)
  · skip
    refine go_skip ?_
    refine go_seq ?_
    refine go_seq ?_
    refine go_reg ?_
    refine run_aops hA 1 _ _ _ _ (by cbv) ?_
    refine ops_done ?_
    refine go_block ?_
    refine go_loopE (fun σ m => ∃ (i : Nat) (n5 : Int), σ = (S35_1 xs_r n5) ∧ (n5 = (i : Int) ∧ i ≤ List.length xs) ∧ m = List.length xs - i) _ [] [0, 1, 5] [] (S35_1 xs_r 0) rfl (by cbv) ⟨0, 0, rfl, ?_, rfl⟩ (fun σ m hI => ?_)
    · skip
      exact ⟨rfl, Nat.zero_le _⟩
    obtain ⟨i, n5, rfl, ⟨hn5, hi⟩, rfl⟩ := hI
    refine go_seq ?_
    refine go_seq ?_
    refine go_reg ?_
    refine run_aops hA 4 _ _ _ _ (by cbv) ?_
    refine ops_done ?_
    refine go_cond rfl (fun c2 => ?_) (fun c2 => ?_)
    · skip
      have ec2 : n5 < (A.rlen xs_r) := lss_t hA c2
      refine go_skip ?_
      refine go_seq ?_
      refine go_block ?_
      refine go_seq ?_
      refine go_draw (by cbv) ?_
      refine run_dops hA 2 _ _ _ _ (by cbv) ?_
      have h0x3 : (0 : Int) ≤ n5 := by
        omega
      have hlx3 : (Int.toNat n5) < List.length xs := by
        omega
      obtain ⟨x3, hx3⟩ : ∃ x, (xs)[(Int.toNat n5)]? = some x := ⟨_, List.getElem?_eq_getElem hlx3⟩
      have hmx3 := List.mem_of_getElem? hx3
      have hrx3 : xs_r[(Int.toNat n5)]? = some [.str x3] := by
        exact map_at eString hxs_r hx3
      refine dops_step rfl rfl rfl (idx_sl rfl rfl rfl rfl rfl h0x3 rfl hrx3) ?_
      refine run_dops hA 3 _ _ _ _ (by cbv) ?_
      refine dops_step rfl rfl rfl (idx_sl rfl rfl rfl rfl rfl h0x3 rfl hrx3) ?_
      refine run_dops hA 2 _ _ _ _ (by cbv) ?_
      refine dops_done ?_
      refine go_cond rfl (fun c4 => ?_) (fun c4 => ?_)
      · skip
        exact absurd (show (A.scmp .neq x3 x3) = true from c4) (by rw [show (A.scmp .neq x3 x3) = false from by subst hA; simp [std]]; decide)
      · skip
        refine go_skip ?_
        refine go_reg ?_
        refine run_aops hA 3 _ _ _ _ (by cbv) ?_
        refine ops_done ?_
        refine ⟨(S35_1 xs_r (A.num .add .i64 n5 1)), List.length xs - (i + 1), ?_, by cbv, i + 1, (A.num .add .i64 n5 1), rfl, ?_, rfl⟩
        · skip
          omega
        · skip
          exact ⟨by rw [add_i64 hA (by omega) (by omega)]; omega, by omega⟩
    · skip
      have ec2 : (A.rlen xs_r) ≤ n5 := lss_f hA c2
      refine go_exit ⟨fun _ => ?_, fun h => absurd rfl h⟩
      refine go_seq ?_
      refine go_reg ?_
      refine run_aops hA 1 _ _ _ _ (by cbv) ?_
      refine ops_done ?_
      refine go_ret ⟨_, by cbv, ?_⟩
      show _ = (PV.bool true)
      rfl

theorem r_laws_eqWrite (A : Alg) (hA : A = std) (x : GWrite) (hk : ∀ k ∈ zsWrite x, (k : Int) ≤ 4611686018427387904) : Real Try.prog 181 [.agg (eWrite x), .agg (eWrite x)] (.bool true) := by
  obtain ⟨x_At, x_Text⟩ := x
  refine real_args (args' := [.agg [.int .i64 x_At, .str x_Text], .agg [.int .i64 x_At, .str x_Text]]) (by rfl) ?_
  refine real tyOk Try.func181 (by kernel_rfl) (afun_of rfl ?_)
  refine go_seq ?_
  refine go_reg ?_
  refine run_aops hA 3 _ _ _ _ (by cbv) ?_
  refine ops_done ?_
  refine go_seq ?_
  refine go_seq ?_
  refine go_reg ?_
  refine run_aops hA 5 _ _ _ _ (by cbv) ?_
  refine ops_done ?_
  refine go_cond rfl (fun c1 => ?_) (fun c1 => ?_)
  · skip
    exact absurd (show (A.cmp .neq x_At x_At) = true from c1) (by rw [show (A.cmp .neq x_At x_At) = false from by subst hA; simp [std]]; decide)
  · skip
    refine go_skip ?_
    refine go_seq ?_
    refine go_seq ?_
    refine go_reg ?_
    refine run_aops hA 5 _ _ _ _ (by cbv) ?_
    refine ops_done ?_
    refine go_cond rfl (fun c2 => ?_) (fun c2 => ?_)
    · skip
      exact absurd (show (A.scmp .neq x_Text x_Text) = true from c2) (by rw [show (A.scmp .neq x_Text x_Text) = false from by subst hA; simp [std]]; decide)
    · skip
      refine go_skip ?_
      refine go_seq ?_
      refine go_reg ?_
      refine run_aops hA 1 _ _ _ _ (by cbv) ?_
      refine ops_done ?_
      refine go_ret ⟨_, by cbv, ?_⟩
      show _ = (PV.bool true)
      rfl

def S168_1 (p0 : List (List PV)) (p1 : Int) : St := { sl := [.sl 2 p0, .sl 2 p0, .bad, .bad, .bad, .int .i64 p1, .bad, .bad, .bad, .bad, .bad, .bad, .bad, .bad, .bad, .bad, .bad, .bad, .bad, .bad, .bad, .bad, .bad, .bad, .bad, .bad, .bad], bl := [] }
theorem r_laws_eqWriteS (A : Alg) (hA : A = std) (xs : List GWrite) (hk : ∀ k ∈ zsWriteS xs, (k : Int) ≤ 4611686018427387904) : Real Try.prog 168 [.sl 2 (List.map eWrite xs), .sl 2 (List.map eWrite xs)] (.bool true) := by
  obtain ⟨xs_r, hxs_r⟩ : ∃ r, r = xs.map eWrite := ⟨_, rfl⟩
  have lxs_r : A.rlen xs_r = (List.length xs : Int) := rlen_map hA hxs_r
  refine real_args (args' := [.sl 2 xs_r, .sl 2 xs_r]) (by subst hxs_r; rfl) ?_
  have hlen : (List.length xs : Int) ≤ 4611686018427387904 := hk _ (by simp [zsWriteS])
  refine real tyOk Try.func168 (by kernel_rfl) (afun_of rfl ?_)
  refine go_seq ?_
  refine go_reg ?_
  refine run_aops hA 1 _ _ _ _ (by cbv) ?_
  refine ops_done ?_
  refine go_seq ?_
  refine go_seq ?_
  refine go_reg ?_
  refine run_aops hA 5 _ _ _ _ (by cbv) ?_
  refine ops_done ?_
  refine go_cond rfl (fun c1 => ?_) (fun c1 => ?_)
  · skip
    exact absurd (show (A.cmp .neq (A.rlen xs_r) (A.rlen xs_r)) = true from c1) (by rw [show (A.cmp .neq (A.rlen xs_r) (A.rlen xs_r)) = false from by subst hA; simp [std]]; decide)
  · skip
    refine go_skip ?_
    refine go_seq ?_
    refine go_seq ?_
    refine go_reg ?_
    refine run_aops hA 1 _ _ _ _ (by cbv) ?_
    refine ops_done ?_
    refine go_block ?_
    refine go_loopE (fun σ m => ∃ (i : Nat) (n5 : Int), σ = (S168_1 xs_r n5) ∧ (n5 = (i : Int) ∧ i ≤ List.length xs) ∧ m = List.length xs - i) _ [] [0, 1, 5] [] (S168_1 xs_r 0) rfl (by cbv) ⟨0, 0, rfl, ?_, rfl⟩ (fun σ m hI => ?_)
    · skip
      exact ⟨rfl, Nat.zero_le _⟩
    obtain ⟨i, n5, rfl, ⟨hn5, hi⟩, rfl⟩ := hI
    refine go_seq ?_
    refine go_seq ?_
    refine go_reg ?_
    refine run_aops hA 4 _ _ _ _ (by cbv) ?_
    refine ops_done ?_
    refine go_cond rfl (fun c2 => ?_) (fun c2 => ?_)
    · skip
      have ec2 : n5 < (A.rlen xs_r) := lss_t hA c2
      refine go_skip ?_
      refine go_seq ?_
      refine go_block ?_
      refine go_seq ?_
      refine go_draw (by cbv) ?_
      refine run_dops hA 2 _ _ _ _ (by cbv) ?_
      have h0x3 : (0 : Int) ≤ n5 := by
        omega
      have hlx3 : (Int.toNat n5) < List.length xs := by
        omega
      obtain ⟨x3, hx3⟩ : ∃ x, (xs)[(Int.toNat n5)]? = some x := ⟨_, List.getElem?_eq_getElem hlx3⟩
      have hmx3 := List.mem_of_getElem? hx3
      obtain ⟨x3_At, x3_Text⟩ := x3
      have hrx3 : xs_r[(Int.toNat n5)]? = some [.int .i64 x3_At, .str x3_Text] := by
        exact map_at eWrite hxs_r hx3
      have hkx := fun (k : Nat) h => hk k (List.mem_cons_of_mem _ (List.mem_flatMap.2 ⟨_, hmx3, h⟩))
      refine dops_step rfl rfl rfl (idx_sl rfl rfl rfl rfl rfl h0x3 rfl hrx3) ?_
      refine run_dops hA 3 _ _ _ _ (by cbv) ?_
      refine dops_step rfl rfl rfl (idx_sl rfl rfl rfl rfl rfl h0x3 rfl hrx3) ?_
      refine run_dops hA 1 _ _ _ _ (by cbv) ?_
      have hc5 : Real Try.prog 181 [.agg [.int .i64 x3_At, .str x3_Text], .agg [.int .i64 x3_At, .str x3_Text]] (.bool true) := by exact r_laws_eqWrite A hA (⟨x3_At, x3_Text⟩ : GWrite) hkx
      refine dops_callV rfl rfl (by cbv) (by cbv) hc5 (.inr rfl) ?_
      refine run_dops hA 1 _ _ _ _ (by cbv) ?_
      refine dops_done ?_
      refine go_cond rfl (fun c6 => ?_) (fun c6 => ?_)
      · skip
        exact absurd (show (A.bnot true) = true from c6) (by rw [show (A.bnot true) = false from by subst hA; rfl]; decide)
      · skip
        refine go_skip ?_
        refine go_reg ?_
        refine run_aops hA 3 _ _ _ _ (by cbv) ?_
        refine ops_done ?_
        refine ⟨(S168_1 xs_r (A.num .add .i64 n5 1)), List.length xs - (i + 1), ?_, by cbv, i + 1, (A.num .add .i64 n5 1), rfl, ?_, rfl⟩
        · skip
          omega
        · skip
          exact ⟨by rw [add_i64 hA (by omega) (by omega)]; omega, by omega⟩
    · skip
      have ec2 : (A.rlen xs_r) ≤ n5 := lss_f hA c2
      refine go_exit ⟨fun _ => ?_, fun h => absurd rfl h⟩
      refine go_seq ?_
      refine go_reg ?_
      refine run_aops hA 1 _ _ _ _ (by cbv) ?_
      refine ops_done ?_
      refine go_ret ⟨_, by cbv, ?_⟩
      show _ = (PV.bool true)
      rfl

theorem r_laws_eqDisk (A : Alg) (hA : A = std) (x : GDisk) (hk : ∀ k ∈ zsDisk x, (k : Int) ≤ 4611686018427387904) : Real Try.prog 150 [.agg (eDisk x), .agg (eDisk x)] (.bool true) := by
  obtain ⟨x_Sectors, x_Cache⟩ := x
  obtain ⟨x_Sectors_r, hx_Sectors_r⟩ : ∃ r, r = x_Sectors.map eString := ⟨_, rfl⟩
  have lx_Sectors_r : A.rlen x_Sectors_r = (List.length x_Sectors : Int) := rlen_map hA hx_Sectors_r
  obtain ⟨x_Cache_r, hx_Cache_r⟩ : ∃ r, r = x_Cache.map eWrite := ⟨_, rfl⟩
  have lx_Cache_r : A.rlen x_Cache_r = (List.length x_Cache : Int) := rlen_map hA hx_Cache_r
  refine real_args (args' := [.agg [.sl 1 x_Sectors_r, .sl 2 x_Cache_r], .agg [.sl 1 x_Sectors_r, .sl 2 x_Cache_r]]) (by subst hx_Sectors_r hx_Cache_r; rfl) ?_
  refine real tyOk Try.func150 (by kernel_rfl) (afun_of rfl ?_)
  refine go_seq ?_
  refine go_reg ?_
  refine run_aops hA 3 _ _ _ _ (by cbv) ?_
  refine ops_done ?_
  refine go_seq ?_
  refine go_seq ?_
  refine go_reg ?_
  refine run_aops hA 4 _ _ _ _ (by cbv) ?_
  have hc2 : Real Try.prog 35 [.sl 1 x_Sectors_r, .sl 1 x_Sectors_r] (.bool true) := by subst hx_Sectors_r; exact r_laws_eqStringS A hA x_Sectors (fun k h => hk k (by simp only [zsDisk, List.mem_append]; simp only [h, true_or, or_true]))
  refine ops_callV rfl rfl (by cbv) (by cbv) hc2 (.inr rfl) (by cbv) ?_
  refine run_aops hA 1 _ _ _ _ (by cbv) ?_
  refine ops_done ?_
  refine go_cond rfl (fun c3 => ?_) (fun c3 => ?_)
  · skip
    exact absurd (show (A.bnot true) = true from c3) (by rw [show (A.bnot true) = false from by subst hA; rfl]; decide)
  · skip
    refine go_skip ?_
    refine go_seq ?_
    refine go_seq ?_
    refine go_reg ?_
    refine run_aops hA 4 _ _ _ _ (by cbv) ?_
    have hc5 : Real Try.prog 168 [.sl 2 x_Cache_r, .sl 2 x_Cache_r] (.bool true) := by subst hx_Cache_r; exact r_laws_eqWriteS A hA x_Cache (fun k h => hk k (by simp only [zsDisk, List.mem_append]; simp only [h, true_or, or_true]))
    refine ops_callV rfl rfl (by cbv) (by cbv) hc5 (.inr rfl) (by cbv) ?_
    refine run_aops hA 1 _ _ _ _ (by cbv) ?_
    refine ops_done ?_
    refine go_cond rfl (fun c6 => ?_) (fun c6 => ?_)
    · skip
      exact absurd (show (A.bnot true) = true from c6) (by rw [show (A.bnot true) = false from by subst hA; rfl]; decide)
    · skip
      refine go_skip ?_
      refine go_seq ?_
      refine go_reg ?_
      refine run_aops hA 1 _ _ _ _ (by cbv) ?_
      refine ops_done ?_
      refine go_ret ⟨_, by cbv, ?_⟩
      show _ = (PV.bool true)
      rfl

theorem r_laws_eqRec (A : Alg) (hA : A = std) (x : GRec) (hk : ∀ k ∈ zsRec x, (k : Int) ≤ 4611686018427387904) : Real Try.prog 190 [.agg (eRec x), .agg (eRec x)] (.bool true) := by
  obtain ⟨x_Kind, x_Valid, x_Uid, x_Next, x_Flags, x_User, x_Name, x_Text⟩ := x
  refine real_args (args' := [.agg [.int .i64 x_Kind, .int .i64 x_Valid, .int .i64 x_Uid, .int .i64 x_Next, .int .i64 x_Flags, .str x_User, .str x_Name, .str x_Text], .agg [.int .i64 x_Kind, .int .i64 x_Valid, .int .i64 x_Uid, .int .i64 x_Next, .int .i64 x_Flags, .str x_User, .str x_Name, .str x_Text]]) (by rfl) ?_
  refine real tyOk Try.func190 (by kernel_rfl) (afun_of rfl ?_)
  refine go_seq ?_
  refine go_reg ?_
  refine run_aops hA 3 _ _ _ _ (by cbv) ?_
  refine ops_done ?_
  refine go_seq ?_
  refine go_seq ?_
  refine go_reg ?_
  refine run_aops hA 5 _ _ _ _ (by cbv) ?_
  refine ops_done ?_
  refine go_cond rfl (fun c1 => ?_) (fun c1 => ?_)
  · skip
    exact absurd (show (A.cmp .neq x_Kind x_Kind) = true from c1) (by rw [show (A.cmp .neq x_Kind x_Kind) = false from by subst hA; simp [std]]; decide)
  · skip
    refine go_skip ?_
    refine go_seq ?_
    refine go_seq ?_
    refine go_reg ?_
    refine run_aops hA 5 _ _ _ _ (by cbv) ?_
    refine ops_done ?_
    refine go_cond rfl (fun c2 => ?_) (fun c2 => ?_)
    · skip
      exact absurd (show (A.cmp .neq x_Valid x_Valid) = true from c2) (by rw [show (A.cmp .neq x_Valid x_Valid) = false from by subst hA; simp [std]]; decide)
    · skip
      refine go_skip ?_
      refine go_seq ?_
      refine go_seq ?_
      refine go_reg ?_
      refine run_aops hA 5 _ _ _ _ (by cbv) ?_
      refine ops_done ?_
      refine go_cond rfl (fun c3 => ?_) (fun c3 => ?_)
      · skip
        exact absurd (show (A.cmp .neq x_Uid x_Uid) = true from c3) (by rw [show (A.cmp .neq x_Uid x_Uid) = false from by subst hA; simp [std]]; decide)
      · skip
        refine go_skip ?_
        refine go_seq ?_
        refine go_seq ?_
        refine go_reg ?_
        refine run_aops hA 5 _ _ _ _ (by cbv) ?_
        refine ops_done ?_
        refine go_cond rfl (fun c4 => ?_) (fun c4 => ?_)
        · skip
          exact absurd (show (A.cmp .neq x_Next x_Next) = true from c4) (by rw [show (A.cmp .neq x_Next x_Next) = false from by subst hA; simp [std]]; decide)
        · skip
          refine go_skip ?_
          refine go_seq ?_
          refine go_seq ?_
          refine go_reg ?_
          refine run_aops hA 5 _ _ _ _ (by cbv) ?_
          refine ops_done ?_
          refine go_cond rfl (fun c5 => ?_) (fun c5 => ?_)
          · skip
            exact absurd (show (A.cmp .neq x_Flags x_Flags) = true from c5) (by rw [show (A.cmp .neq x_Flags x_Flags) = false from by subst hA; simp [std]]; decide)
          · skip
            refine go_skip ?_
            refine go_seq ?_
            refine go_seq ?_
            refine go_reg ?_
            refine run_aops hA 5 _ _ _ _ (by cbv) ?_
            refine ops_done ?_
            refine go_cond rfl (fun c6 => ?_) (fun c6 => ?_)
            · skip
              exact absurd (show (A.scmp .neq x_User x_User) = true from c6) (by rw [show (A.scmp .neq x_User x_User) = false from by subst hA; simp [std]]; decide)
            · skip
              refine go_skip ?_
              refine go_seq ?_
              refine go_seq ?_
              refine go_reg ?_
              refine run_aops hA 5 _ _ _ _ (by cbv) ?_
              refine ops_done ?_
              refine go_cond rfl (fun c7 => ?_) (fun c7 => ?_)
              · skip
                exact absurd (show (A.scmp .neq x_Name x_Name) = true from c7) (by rw [show (A.scmp .neq x_Name x_Name) = false from by subst hA; simp [std]]; decide)
              · skip
                refine go_skip ?_
                refine go_seq ?_
                refine go_seq ?_
                refine go_reg ?_
                refine run_aops hA 5 _ _ _ _ (by cbv) ?_
                refine ops_done ?_
                refine go_cond rfl (fun c8 => ?_) (fun c8 => ?_)
                · skip
                  exact absurd (show (A.scmp .neq x_Text x_Text) = true from c8) (by rw [show (A.scmp .neq x_Text x_Text) = false from by subst hA; simp [std]]; decide)
                · skip
                  refine go_skip ?_
                  refine go_seq ?_
                  refine go_reg ?_
                  refine run_aops hA 1 _ _ _ _ (by cbv) ?_
                  refine ops_done ?_
                  refine go_ret ⟨_, by cbv, ?_⟩
                  show _ = (PV.bool true)
                  rfl

theorem r_laws_eqItem (A : Alg) (hA : A = std) (x : GItem) (hk : ∀ k ∈ zsItem x, (k : Int) ≤ 4611686018427387904) : Real Try.prog 186 [.agg (eItem x), .agg (eItem x)] (.bool true) := by
  obtain ⟨x_Seq, ⟨x_Rec_Kind, x_Rec_Valid, x_Rec_Uid, x_Rec_Next, x_Rec_Flags, x_Rec_User, x_Rec_Name, x_Rec_Text⟩⟩ := x
  refine real_args (args' := [.agg [.int .i64 x_Seq, .int .i64 x_Rec_Kind, .int .i64 x_Rec_Valid, .int .i64 x_Rec_Uid, .int .i64 x_Rec_Next, .int .i64 x_Rec_Flags, .str x_Rec_User, .str x_Rec_Name, .str x_Rec_Text], .agg [.int .i64 x_Seq, .int .i64 x_Rec_Kind, .int .i64 x_Rec_Valid, .int .i64 x_Rec_Uid, .int .i64 x_Rec_Next, .int .i64 x_Rec_Flags, .str x_Rec_User, .str x_Rec_Name, .str x_Rec_Text]]) (by rfl) ?_
  refine real tyOk Try.func186 (by kernel_rfl) (afun_of rfl ?_)
  refine go_seq ?_
  refine go_reg ?_
  refine run_aops hA 3 _ _ _ _ (by cbv) ?_
  refine ops_done ?_
  refine go_seq ?_
  refine go_seq ?_
  refine go_reg ?_
  refine run_aops hA 5 _ _ _ _ (by cbv) ?_
  refine ops_done ?_
  refine go_cond rfl (fun c1 => ?_) (fun c1 => ?_)
  · skip
    exact absurd (show (A.cmp .neq x_Seq x_Seq) = true from c1) (by rw [show (A.cmp .neq x_Seq x_Seq) = false from by subst hA; simp [std]]; decide)
  · skip
    refine go_skip ?_
    refine go_seq ?_
    refine go_seq ?_
    refine go_reg ?_
    refine run_aops hA 4 _ _ _ _ (by cbv) ?_
    have hc3 : Real Try.prog 190 [.agg [.int .i64 x_Rec_Kind, .int .i64 x_Rec_Valid, .int .i64 x_Rec_Uid, .int .i64 x_Rec_Next, .int .i64 x_Rec_Flags, .str x_Rec_User, .str x_Rec_Name, .str x_Rec_Text], .agg [.int .i64 x_Rec_Kind, .int .i64 x_Rec_Valid, .int .i64 x_Rec_Uid, .int .i64 x_Rec_Next, .int .i64 x_Rec_Flags, .str x_Rec_User, .str x_Rec_Name, .str x_Rec_Text]] (.bool true) := by exact r_laws_eqRec A hA (⟨x_Rec_Kind, x_Rec_Valid, x_Rec_Uid, x_Rec_Next, x_Rec_Flags, x_Rec_User, x_Rec_Name, x_Rec_Text⟩ : GRec) (fun k h => hk k (by simp only [zsItem, List.mem_append]; simp only [h, true_or, or_true]))
    refine ops_callV rfl rfl (by cbv) (by cbv) hc3 (.inr rfl) (by cbv) ?_
    refine run_aops hA 1 _ _ _ _ (by cbv) ?_
    refine ops_done ?_
    refine go_cond rfl (fun c4 => ?_) (fun c4 => ?_)
    · skip
      exact absurd (show (A.bnot true) = true from c4) (by rw [show (A.bnot true) = false from by subst hA; rfl]; decide)
    · skip
      refine go_skip ?_
      refine go_seq ?_
      refine go_reg ?_
      refine run_aops hA 1 _ _ _ _ (by cbv) ?_
      refine ops_done ?_
      refine go_ret ⟨_, by cbv, ?_⟩
      show _ = (PV.bool true)
      rfl

def S182_1 (p0 : List (List PV)) (p1 : Int) : St := { sl := [.sl 9 p0, .sl 9 p0, .bad, .bad, .bad, .int .i64 p1, .bad, .bad, .bad, .bad, .bad, .bad, .bad, .bad, .bad, .bad, .bad, .bad, .bad, .bad, .bad, .bad, .bad, .bad, .bad, .bad, .bad], bl := [] }
theorem r_laws_eqItemS (A : Alg) (hA : A = std) (xs : List GItem) (hk : ∀ k ∈ zsItemS xs, (k : Int) ≤ 4611686018427387904) : Real Try.prog 182 [.sl 9 (List.map eItem xs), .sl 9 (List.map eItem xs)] (.bool true) := by
  obtain ⟨xs_r, hxs_r⟩ : ∃ r, r = xs.map eItem := ⟨_, rfl⟩
  have lxs_r : A.rlen xs_r = (List.length xs : Int) := rlen_map hA hxs_r
  refine real_args (args' := [.sl 9 xs_r, .sl 9 xs_r]) (by subst hxs_r; rfl) ?_
  have hlen : (List.length xs : Int) ≤ 4611686018427387904 := hk _ (by simp [zsItemS])
  refine real tyOk Try.func182 (by kernel_rfl) (afun_of rfl ?_)
  refine go_seq ?_
  refine go_reg ?_
  refine run_aops hA 1 _ _ _ _ (by cbv) ?_
  refine ops_done ?_
  refine go_seq ?_
  refine go_seq ?_
  refine go_reg ?_
  refine run_aops hA 5 _ _ _ _ (by cbv) ?_
  refine ops_done ?_
  refine go_cond rfl (fun c1 => ?_) (fun c1 => ?_)
  · skip
    exact absurd (show (A.cmp .neq (A.rlen xs_r) (A.rlen xs_r)) = true from c1) (by rw [show (A.cmp .neq (A.rlen xs_r) (A.rlen xs_r)) = false from by subst hA; simp [std]]; decide)
  · skip
    refine go_skip ?_
    refine go_seq ?_
    refine go_seq ?_
    refine go_reg ?_
    refine run_aops hA 1 _ _ _ _ (by cbv) ?_
    refine ops_done ?_
    refine go_block ?_
    refine go_loopE (fun σ m => ∃ (i : Nat) (n5 : Int), σ = (S182_1 xs_r n5) ∧ (n5 = (i : Int) ∧ i ≤ List.length xs) ∧ m = List.length xs - i) _ [] [0, 1, 5] [] (S182_1 xs_r 0) rfl (by cbv) ⟨0, 0, rfl, ?_, rfl⟩ (fun σ m hI => ?_)
    · skip
      exact ⟨rfl, Nat.zero_le _⟩
    obtain ⟨i, n5, rfl, ⟨hn5, hi⟩, rfl⟩ := hI
    refine go_seq ?_
    refine go_seq ?_
    refine go_reg ?_
    refine run_aops hA 4 _ _ _ _ (by cbv) ?_
    refine ops_done ?_
    refine go_cond rfl (fun c2 => ?_) (fun c2 => ?_)
    · skip
      have ec2 : n5 < (A.rlen xs_r) := lss_t hA c2
      refine go_skip ?_
      refine go_seq ?_
      refine go_block ?_
      refine go_seq ?_
      refine go_draw (by cbv) ?_
      refine run_dops hA 2 _ _ _ _ (by cbv) ?_
      have h0x3 : (0 : Int) ≤ n5 := by
        omega
      have hlx3 : (Int.toNat n5) < List.length xs := by
        omega
      obtain ⟨x3, hx3⟩ : ∃ x, (xs)[(Int.toNat n5)]? = some x := ⟨_, List.getElem?_eq_getElem hlx3⟩
      have hmx3 := List.mem_of_getElem? hx3
      obtain ⟨x3_Seq, ⟨x3_Rec_Kind, x3_Rec_Valid, x3_Rec_Uid, x3_Rec_Next, x3_Rec_Flags, x3_Rec_User, x3_Rec_Name, x3_Rec_Text⟩⟩ := x3
      have hrx3 : xs_r[(Int.toNat n5)]? = some [.int .i64 x3_Seq, .int .i64 x3_Rec_Kind, .int .i64 x3_Rec_Valid, .int .i64 x3_Rec_Uid, .int .i64 x3_Rec_Next, .int .i64 x3_Rec_Flags, .str x3_Rec_User, .str x3_Rec_Name, .str x3_Rec_Text] := by
        exact map_at eItem hxs_r hx3
      have hkx := fun (k : Nat) h => hk k (List.mem_cons_of_mem _ (List.mem_flatMap.2 ⟨_, hmx3, h⟩))
      refine dops_step rfl rfl rfl (idx_sl rfl rfl rfl rfl rfl h0x3 rfl hrx3) ?_
      refine run_dops hA 3 _ _ _ _ (by cbv) ?_
      refine dops_step rfl rfl rfl (idx_sl rfl rfl rfl rfl rfl h0x3 rfl hrx3) ?_
      refine run_dops hA 1 _ _ _ _ (by cbv) ?_
      have hc5 : Real Try.prog 186 [.agg [.int .i64 x3_Seq, .int .i64 x3_Rec_Kind, .int .i64 x3_Rec_Valid, .int .i64 x3_Rec_Uid, .int .i64 x3_Rec_Next, .int .i64 x3_Rec_Flags, .str x3_Rec_User, .str x3_Rec_Name, .str x3_Rec_Text], .agg [.int .i64 x3_Seq, .int .i64 x3_Rec_Kind, .int .i64 x3_Rec_Valid, .int .i64 x3_Rec_Uid, .int .i64 x3_Rec_Next, .int .i64 x3_Rec_Flags, .str x3_Rec_User, .str x3_Rec_Name, .str x3_Rec_Text]] (.bool true) := by exact r_laws_eqItem A hA (⟨x3_Seq, ⟨x3_Rec_Kind, x3_Rec_Valid, x3_Rec_Uid, x3_Rec_Next, x3_Rec_Flags, x3_Rec_User, x3_Rec_Name, x3_Rec_Text⟩⟩ : GItem) hkx
      refine dops_callV rfl rfl (by cbv) (by cbv) hc5 (.inr rfl) ?_
      refine run_dops hA 1 _ _ _ _ (by cbv) ?_
      refine dops_done ?_
      refine go_cond rfl (fun c6 => ?_) (fun c6 => ?_)
      · skip
        exact absurd (show (A.bnot true) = true from c6) (by rw [show (A.bnot true) = false from by subst hA; rfl]; decide)
      · skip
        refine go_skip ?_
        refine go_reg ?_
        refine run_aops hA 3 _ _ _ _ (by cbv) ?_
        refine ops_done ?_
        refine ⟨(S182_1 xs_r (A.num .add .i64 n5 1)), List.length xs - (i + 1), ?_, by cbv, i + 1, (A.num .add .i64 n5 1), rfl, ?_, rfl⟩
        · skip
          omega
        · skip
          exact ⟨by rw [add_i64 hA (by omega) (by omega)]; omega, by omega⟩
    · skip
      have ec2 : (A.rlen xs_r) ≤ n5 := lss_f hA c2
      refine go_exit ⟨fun _ => ?_, fun h => absurd rfl h⟩
      refine go_seq ?_
      refine go_reg ?_
      refine run_aops hA 1 _ _ _ _ (by cbv) ?_
      refine ops_done ?_
      refine go_ret ⟨_, by cbv, ?_⟩
      show _ = (PV.bool true)
      rfl

theorem r_laws_eqSeg (A : Alg) (hA : A = std) (x : GSeg) (hk : ∀ k ∈ zsSeg x, (k : Int) ≤ 4611686018427387904) : Real Try.prog 169 [.agg (eSeg x), .agg (eSeg x)] (.bool true) := by
  obtain ⟨x_No, x_Gen, x_End, x_Items⟩ := x
  obtain ⟨x_Items_r, hx_Items_r⟩ : ∃ r, r = x_Items.map eItem := ⟨_, rfl⟩
  have lx_Items_r : A.rlen x_Items_r = (List.length x_Items : Int) := rlen_map hA hx_Items_r
  refine real_args (args' := [.agg [.int .i64 x_No, .int .i64 x_Gen, .int .i64 x_End, .sl 9 x_Items_r], .agg [.int .i64 x_No, .int .i64 x_Gen, .int .i64 x_End, .sl 9 x_Items_r]]) (by subst hx_Items_r; rfl) ?_
  refine real tyOk Try.func169 (by kernel_rfl) (afun_of rfl ?_)
  refine go_seq ?_
  refine go_reg ?_
  refine run_aops hA 3 _ _ _ _ (by cbv) ?_
  refine ops_done ?_
  refine go_seq ?_
  refine go_seq ?_
  refine go_reg ?_
  refine run_aops hA 5 _ _ _ _ (by cbv) ?_
  refine ops_done ?_
  refine go_cond rfl (fun c1 => ?_) (fun c1 => ?_)
  · skip
    exact absurd (show (A.cmp .neq x_No x_No) = true from c1) (by rw [show (A.cmp .neq x_No x_No) = false from by subst hA; simp [std]]; decide)
  · skip
    refine go_skip ?_
    refine go_seq ?_
    refine go_seq ?_
    refine go_reg ?_
    refine run_aops hA 5 _ _ _ _ (by cbv) ?_
    refine ops_done ?_
    refine go_cond rfl (fun c2 => ?_) (fun c2 => ?_)
    · skip
      exact absurd (show (A.cmp .neq x_Gen x_Gen) = true from c2) (by rw [show (A.cmp .neq x_Gen x_Gen) = false from by subst hA; simp [std]]; decide)
    · skip
      refine go_skip ?_
      refine go_seq ?_
      refine go_seq ?_
      refine go_reg ?_
      refine run_aops hA 5 _ _ _ _ (by cbv) ?_
      refine ops_done ?_
      refine go_cond rfl (fun c3 => ?_) (fun c3 => ?_)
      · skip
        exact absurd (show (A.cmp .neq x_End x_End) = true from c3) (by rw [show (A.cmp .neq x_End x_End) = false from by subst hA; simp [std]]; decide)
      · skip
        refine go_skip ?_
        refine go_seq ?_
        refine go_seq ?_
        refine go_reg ?_
        refine run_aops hA 4 _ _ _ _ (by cbv) ?_
        have hc5 : Real Try.prog 182 [.sl 9 x_Items_r, .sl 9 x_Items_r] (.bool true) := by subst hx_Items_r; exact r_laws_eqItemS A hA x_Items (fun k h => hk k (by simp only [zsSeg, List.mem_append]; simp only [h, true_or, or_true]))
        refine ops_callV rfl rfl (by cbv) (by cbv) hc5 (.inr rfl) (by cbv) ?_
        refine run_aops hA 1 _ _ _ _ (by cbv) ?_
        refine ops_done ?_
        refine go_cond rfl (fun c6 => ?_) (fun c6 => ?_)
        · skip
          exact absurd (show (A.bnot true) = true from c6) (by rw [show (A.bnot true) = false from by subst hA; rfl]; decide)
        · skip
          refine go_skip ?_
          refine go_seq ?_
          refine go_reg ?_
          refine run_aops hA 1 _ _ _ _ (by cbv) ?_
          refine ops_done ?_
          refine go_ret ⟨_, by cbv, ?_⟩
          show _ = (PV.bool true)
          rfl

def S151_1 (p0 : List (List PV)) (p1 : Int) : St := { sl := [.sl 4 p0, .sl 4 p0, .bad, .bad, .bad, .int .i64 p1, .bad, .bad, .bad, .bad, .bad, .bad, .bad, .bad, .bad, .bad, .bad, .bad, .bad, .bad, .bad, .bad, .bad, .bad, .bad, .bad, .bad], bl := [] }
theorem r_laws_eqSegS (A : Alg) (hA : A = std) (xs : List GSeg) (hk : ∀ k ∈ zsSegS xs, (k : Int) ≤ 4611686018427387904) : Real Try.prog 151 [.sl 4 (List.map eSeg xs), .sl 4 (List.map eSeg xs)] (.bool true) := by
  obtain ⟨xs_r, hxs_r⟩ : ∃ r, r = xs.map eSeg := ⟨_, rfl⟩
  have lxs_r : A.rlen xs_r = (List.length xs : Int) := rlen_map hA hxs_r
  refine real_args (args' := [.sl 4 xs_r, .sl 4 xs_r]) (by subst hxs_r; rfl) ?_
  have hlen : (List.length xs : Int) ≤ 4611686018427387904 := hk _ (by simp [zsSegS])
  refine real tyOk Try.func151 (by kernel_rfl) (afun_of rfl ?_)
  refine go_seq ?_
  refine go_reg ?_
  refine run_aops hA 1 _ _ _ _ (by cbv) ?_
  refine ops_done ?_
  refine go_seq ?_
  refine go_seq ?_
  refine go_reg ?_
  refine run_aops hA 5 _ _ _ _ (by cbv) ?_
  refine ops_done ?_
  refine go_cond rfl (fun c1 => ?_) (fun c1 => ?_)
  · skip
    exact absurd (show (A.cmp .neq (A.rlen xs_r) (A.rlen xs_r)) = true from c1) (by rw [show (A.cmp .neq (A.rlen xs_r) (A.rlen xs_r)) = false from by subst hA; simp [std]]; decide)
  · skip
    refine go_skip ?_
    refine go_seq ?_
    refine go_seq ?_
    refine go_reg ?_
    refine run_aops hA 1 _ _ _ _ (by cbv) ?_
    refine ops_done ?_
    refine go_block ?_
    refine go_loopE (fun σ m => ∃ (i : Nat) (n5 : Int), σ = (S151_1 xs_r n5) ∧ (n5 = (i : Int) ∧ i ≤ List.length xs) ∧ m = List.length xs - i) _ [] [0, 1, 5] [] (S151_1 xs_r 0) rfl (by cbv) ⟨0, 0, rfl, ?_, rfl⟩ (fun σ m hI => ?_)
    · skip
      exact ⟨rfl, Nat.zero_le _⟩
    obtain ⟨i, n5, rfl, ⟨hn5, hi⟩, rfl⟩ := hI
    refine go_seq ?_
    refine go_seq ?_
    refine go_reg ?_
    refine run_aops hA 4 _ _ _ _ (by cbv) ?_
    refine ops_done ?_
    refine go_cond rfl (fun c2 => ?_) (fun c2 => ?_)
    · skip
      have ec2 : n5 < (A.rlen xs_r) := lss_t hA c2
      refine go_skip ?_
      refine go_seq ?_
      refine go_block ?_
      refine go_seq ?_
      refine go_draw (by cbv) ?_
      refine run_dops hA 2 _ _ _ _ (by cbv) ?_
      have h0x3 : (0 : Int) ≤ n5 := by
        omega
      have hlx3 : (Int.toNat n5) < List.length xs := by
        omega
      obtain ⟨x3, hx3⟩ : ∃ x, (xs)[(Int.toNat n5)]? = some x := ⟨_, List.getElem?_eq_getElem hlx3⟩
      have hmx3 := List.mem_of_getElem? hx3
      obtain ⟨x3_No, x3_Gen, x3_End, x3_Items⟩ := x3
      obtain ⟨x3_Items_r, hx3_Items_r⟩ : ∃ r, r = x3_Items.map eItem := ⟨_, rfl⟩
      have lx3_Items_r : A.rlen x3_Items_r = (List.length x3_Items : Int) := rlen_map hA hx3_Items_r
      have hrx3 : xs_r[(Int.toNat n5)]? = some [.int .i64 x3_No, .int .i64 x3_Gen, .int .i64 x3_End, .sl 9 x3_Items_r] := by
        subst hx3_Items_r; exact map_at eSeg hxs_r hx3
      have hkx := fun (k : Nat) h => hk k (List.mem_cons_of_mem _ (List.mem_flatMap.2 ⟨_, hmx3, h⟩))
      refine dops_step rfl rfl rfl (idx_sl rfl rfl rfl rfl rfl h0x3 rfl hrx3) ?_
      refine run_dops hA 3 _ _ _ _ (by cbv) ?_
      refine dops_step rfl rfl rfl (idx_sl rfl rfl rfl rfl rfl h0x3 rfl hrx3) ?_
      refine run_dops hA 1 _ _ _ _ (by cbv) ?_
      have hc5 : Real Try.prog 169 [.agg [.int .i64 x3_No, .int .i64 x3_Gen, .int .i64 x3_End, .sl 9 x3_Items_r], .agg [.int .i64 x3_No, .int .i64 x3_Gen, .int .i64 x3_End, .sl 9 x3_Items_r]] (.bool true) := by subst hx3_Items_r; exact r_laws_eqSeg A hA (⟨x3_No, x3_Gen, x3_End, x3_Items⟩ : GSeg) hkx
      refine dops_callV rfl rfl (by cbv) (by cbv) hc5 (.inr rfl) ?_
      refine run_dops hA 1 _ _ _ _ (by cbv) ?_
      refine dops_done ?_
      refine go_cond rfl (fun c6 => ?_) (fun c6 => ?_)
      · skip
        exact absurd (show (A.bnot true) = true from c6) (by rw [show (A.bnot true) = false from by subst hA; rfl]; decide)
      · skip
        refine go_skip ?_
        refine go_reg ?_
        refine run_aops hA 3 _ _ _ _ (by cbv) ?_
        refine ops_done ?_
        refine ⟨(S151_1 xs_r (A.num .add .i64 n5 1)), List.length xs - (i + 1), ?_, by cbv, i + 1, (A.num .add .i64 n5 1), rfl, ?_, rfl⟩
        · skip
          omega
        · skip
          exact ⟨by rw [add_i64 hA (by omega) (by omega)]; omega, by omega⟩
    · skip
      have ec2 : (A.rlen xs_r) ≤ n5 := lss_f hA c2
      refine go_exit ⟨fun _ => ?_, fun h => absurd rfl h⟩
      refine go_seq ?_
      refine go_reg ?_
      refine run_aops hA 1 _ _ _ _ (by cbv) ?_
      refine ops_done ?_
      refine go_ret ⟨_, by cbv, ?_⟩
      show _ = (PV.bool true)
      rfl

theorem r_laws_eqLog (A : Alg) (hA : A = std) (x : GLog) (hk : ∀ k ∈ zsLog x, (k : Int) ≤ 4611686018427387904) : Real Try.prog 133 [.agg (eLog x), .agg (eLog x)] (.bool true) := by
  obtain ⟨⟨x_Disk_Sectors, x_Disk_Cache⟩, x_Segs, x_Used, x_NextGen, x_NextSeq, x_Stamp, x_NextValid⟩ := x
  obtain ⟨x_Disk_Sectors_r, hx_Disk_Sectors_r⟩ : ∃ r, r = x_Disk_Sectors.map eString := ⟨_, rfl⟩
  have lx_Disk_Sectors_r : A.rlen x_Disk_Sectors_r = (List.length x_Disk_Sectors : Int) := rlen_map hA hx_Disk_Sectors_r
  obtain ⟨x_Disk_Cache_r, hx_Disk_Cache_r⟩ : ∃ r, r = x_Disk_Cache.map eWrite := ⟨_, rfl⟩
  have lx_Disk_Cache_r : A.rlen x_Disk_Cache_r = (List.length x_Disk_Cache : Int) := rlen_map hA hx_Disk_Cache_r
  obtain ⟨x_Used_r, hx_Used_r⟩ : ∃ r, r = x_Used.map eSeg := ⟨_, rfl⟩
  have lx_Used_r : A.rlen x_Used_r = (List.length x_Used : Int) := rlen_map hA hx_Used_r
  refine real_args (args' := [.agg [.sl 1 x_Disk_Sectors_r, .sl 2 x_Disk_Cache_r, .int .i64 x_Segs, .sl 4 x_Used_r, .int .i64 x_NextGen, .int .i64 x_NextSeq, .int .i64 x_Stamp, .int .i64 x_NextValid], .agg [.sl 1 x_Disk_Sectors_r, .sl 2 x_Disk_Cache_r, .int .i64 x_Segs, .sl 4 x_Used_r, .int .i64 x_NextGen, .int .i64 x_NextSeq, .int .i64 x_Stamp, .int .i64 x_NextValid]]) (by subst hx_Disk_Sectors_r hx_Disk_Cache_r hx_Used_r; rfl) ?_
  refine real tyOk Try.func133 (by kernel_rfl) (afun_of rfl ?_)
  refine go_seq ?_
  refine go_reg ?_
  refine run_aops hA 3 _ _ _ _ (by cbv) ?_
  refine ops_done ?_
  refine go_seq ?_
  refine go_seq ?_
  refine go_reg ?_
  refine run_aops hA 4 _ _ _ _ (by cbv) ?_
  have hc2 : Real Try.prog 150 [.agg [.sl 1 x_Disk_Sectors_r, .sl 2 x_Disk_Cache_r], .agg [.sl 1 x_Disk_Sectors_r, .sl 2 x_Disk_Cache_r]] (.bool true) := by subst hx_Disk_Sectors_r hx_Disk_Cache_r; exact r_laws_eqDisk A hA (⟨x_Disk_Sectors, x_Disk_Cache⟩ : GDisk) (fun k h => hk k (by simp only [zsLog, List.mem_append]; simp only [h, true_or, or_true]))
  refine ops_callV rfl rfl (by cbv) (by cbv) hc2 (.inr rfl) (by cbv) ?_
  refine run_aops hA 1 _ _ _ _ (by cbv) ?_
  refine ops_done ?_
  refine go_cond rfl (fun c3 => ?_) (fun c3 => ?_)
  · skip
    exact absurd (show (A.bnot true) = true from c3) (by rw [show (A.bnot true) = false from by subst hA; rfl]; decide)
  · skip
    refine go_skip ?_
    refine go_seq ?_
    refine go_seq ?_
    refine go_reg ?_
    refine run_aops hA 5 _ _ _ _ (by cbv) ?_
    refine ops_done ?_
    refine go_cond rfl (fun c4 => ?_) (fun c4 => ?_)
    · skip
      exact absurd (show (A.cmp .neq x_Segs x_Segs) = true from c4) (by rw [show (A.cmp .neq x_Segs x_Segs) = false from by subst hA; simp [std]]; decide)
    · skip
      refine go_skip ?_
      refine go_seq ?_
      refine go_seq ?_
      refine go_reg ?_
      refine run_aops hA 4 _ _ _ _ (by cbv) ?_
      have hc6 : Real Try.prog 151 [.sl 4 x_Used_r, .sl 4 x_Used_r] (.bool true) := by subst hx_Used_r; exact r_laws_eqSegS A hA x_Used (fun k h => hk k (by simp only [zsLog, List.mem_append]; simp only [h, true_or, or_true]))
      refine ops_callV rfl rfl (by cbv) (by cbv) hc6 (.inr rfl) (by cbv) ?_
      refine run_aops hA 1 _ _ _ _ (by cbv) ?_
      refine ops_done ?_
      refine go_cond rfl (fun c7 => ?_) (fun c7 => ?_)
      · skip
        exact absurd (show (A.bnot true) = true from c7) (by rw [show (A.bnot true) = false from by subst hA; rfl]; decide)
      · skip
        refine go_skip ?_
        refine go_seq ?_
        refine go_seq ?_
        refine go_reg ?_
        refine run_aops hA 5 _ _ _ _ (by cbv) ?_
        refine ops_done ?_
        refine go_cond rfl (fun c8 => ?_) (fun c8 => ?_)
        · skip
          exact absurd (show (A.cmp .neq x_NextGen x_NextGen) = true from c8) (by rw [show (A.cmp .neq x_NextGen x_NextGen) = false from by subst hA; simp [std]]; decide)
        · skip
          refine go_skip ?_
          refine go_seq ?_
          refine go_seq ?_
          refine go_reg ?_
          refine run_aops hA 5 _ _ _ _ (by cbv) ?_
          refine ops_done ?_
          refine go_cond rfl (fun c9 => ?_) (fun c9 => ?_)
          · skip
            exact absurd (show (A.cmp .neq x_NextSeq x_NextSeq) = true from c9) (by rw [show (A.cmp .neq x_NextSeq x_NextSeq) = false from by subst hA; simp [std]]; decide)
          · skip
            refine go_skip ?_
            refine go_seq ?_
            refine go_seq ?_
            refine go_reg ?_
            refine run_aops hA 5 _ _ _ _ (by cbv) ?_
            refine ops_done ?_
            refine go_cond rfl (fun c10 => ?_) (fun c10 => ?_)
            · skip
              exact absurd (show (A.cmp .neq x_Stamp x_Stamp) = true from c10) (by rw [show (A.cmp .neq x_Stamp x_Stamp) = false from by subst hA; simp [std]]; decide)
            · skip
              refine go_skip ?_
              refine go_seq ?_
              refine go_seq ?_
              refine go_reg ?_
              refine run_aops hA 5 _ _ _ _ (by cbv) ?_
              refine ops_done ?_
              refine go_cond rfl (fun c11 => ?_) (fun c11 => ?_)
              · skip
                exact absurd (show (A.cmp .neq x_NextValid x_NextValid) = true from c11) (by rw [show (A.cmp .neq x_NextValid x_NextValid) = false from by subst hA; simp [std]]; decide)
              · skip
                refine go_skip ?_
                refine go_seq ?_
                refine go_reg ?_
                refine run_aops hA 1 _ _ _ _ (by cbv) ?_
                refine ops_done ?_
                refine go_ret ⟨_, by cbv, ?_⟩
                show _ = (PV.bool true)
                rfl

def S70_1 (p0 : List (List PV)) (p1 : Int) : St := { sl := [.sl 1 p0, .sl 1 p0, .bad, .bad, .bad, .int .i64 p1, .bad, .bad, .bad, .bad, .bad, .bad, .bad, .bad, .bad, .bad, .bad, .bad, .bad, .bad, .bad, .bad, .bad, .bad, .bad, .bad], bl := [] }
theorem r_laws_eqIntS (A : Alg) (hA : A = std) (xs : List Int) (hk : ∀ k ∈ zsIntS xs, (k : Int) ≤ 4611686018427387904) : Real Try.prog 70 [.sl 1 (List.map eInt xs), .sl 1 (List.map eInt xs)] (.bool true) := by
  obtain ⟨xs_r, hxs_r⟩ : ∃ r, r = xs.map eInt := ⟨_, rfl⟩
  have lxs_r : A.rlen xs_r = (List.length xs : Int) := rlen_map hA hxs_r
  refine real_args (args' := [.sl 1 xs_r, .sl 1 xs_r]) (by subst hxs_r; rfl) ?_
  have hlen : (List.length xs : Int) ≤ 4611686018427387904 := hk _ (by simp [zsIntS])
  refine real tyOk Try.func70 (by kernel_rfl) (afun_of rfl ?_)
  refine go_seq ?_
  refine go_reg ?_
  refine run_aops hA 1 _ _ _ _ (by cbv) ?_
  refine ops_done ?_
  refine go_seq ?_
  refine go_seq ?_
  refine go_reg ?_
  refine run_aops hA 5 _ _ _ _ (by cbv) ?_
  refine ops_done ?_
  refine go_cond rfl (fun c1 => ?_) (fun c1 => ?_)
  · skip
    exact absurd (show (A.cmp .neq (A.rlen xs_r) (A.rlen xs_r)) = true from c1) (by rw [show (A.cmp .neq (A.rlen xs_r) (A.rlen xs_r)) = false from by subst hA; simp [std]]; decide)
  · skip
    refine go_skip ?_
    refine go_seq ?_
    refine go_seq ?_
    refine go_reg ?_
    refine run_aops hA 1 _ _ _ _ (by cbv) ?_
    refine ops_done ?_
    refine go_block ?_
    refine go_loopE (fun σ m => ∃ (i : Nat) (n5 : Int), σ = (S70_1 xs_r n5) ∧ (n5 = (i : Int) ∧ i ≤ List.length xs) ∧ m = List.length xs - i) _ [] [0, 1, 5] [] (S70_1 xs_r 0) rfl (by cbv) ⟨0, 0, rfl, ?_, rfl⟩ (fun σ m hI => ?_)
    · skip
      exact ⟨rfl, Nat.zero_le _⟩
    obtain ⟨i, n5, rfl, ⟨hn5, hi⟩, rfl⟩ := hI
    refine go_seq ?_
    refine go_seq ?_
    refine go_reg ?_
    refine run_aops hA 4 _ _ _ _ (by cbv) ?_
    refine ops_done ?_
    refine go_cond rfl (fun c2 => ?_) (fun c2 => ?_)
    · skip
      have ec2 : n5 < (A.rlen xs_r) := lss_t hA c2
      refine go_skip ?_
      refine go_seq ?_
      refine go_block ?_
      refine go_seq ?_
      refine go_draw (by cbv) ?_
      refine run_dops hA 2 _ _ _ _ (by cbv) ?_
      have h0x3 : (0 : Int) ≤ n5 := by
        omega
      have hlx3 : (Int.toNat n5) < List.length xs := by
        omega
      obtain ⟨x3, hx3⟩ : ∃ x, (xs)[(Int.toNat n5)]? = some x := ⟨_, List.getElem?_eq_getElem hlx3⟩
      have hmx3 := List.mem_of_getElem? hx3
      have hrx3 : xs_r[(Int.toNat n5)]? = some [.int .i64 x3] := by
        exact map_at eInt hxs_r hx3
      refine dops_step rfl rfl rfl (idx_sl rfl rfl rfl rfl rfl h0x3 rfl hrx3) ?_
      refine run_dops hA 3 _ _ _ _ (by cbv) ?_
      refine dops_step rfl rfl rfl (idx_sl rfl rfl rfl rfl rfl h0x3 rfl hrx3) ?_
      refine run_dops hA 2 _ _ _ _ (by cbv) ?_
      refine dops_done ?_
      refine go_cond rfl (fun c4 => ?_) (fun c4 => ?_)
      · skip
        exact absurd (show (A.cmp .neq x3 x3) = true from c4) (by rw [show (A.cmp .neq x3 x3) = false from by subst hA; simp [std]]; decide)
      · skip
        refine go_skip ?_
        refine go_reg ?_
        refine run_aops hA 3 _ _ _ _ (by cbv) ?_
        refine ops_done ?_
        refine ⟨(S70_1 xs_r (A.num .add .i64 n5 1)), List.length xs - (i + 1), ?_, by cbv, i + 1, (A.num .add .i64 n5 1), rfl, ?_, rfl⟩
        · skip
          omega
        · skip
          exact ⟨by rw [add_i64 hA (by omega) (by omega)]; omega, by omega⟩
    · skip
      have ec2 : (A.rlen xs_r) ≤ n5 := lss_f hA c2
      refine go_exit ⟨fun _ => ?_, fun h => absurd rfl h⟩
      refine go_seq ?_
      refine go_reg ?_
      refine run_aops hA 1 _ _ _ _ (by cbv) ?_
      refine ops_done ?_
      refine go_ret ⟨_, by cbv, ?_⟩
      show _ = (PV.bool true)
      rfl

theorem r_laws_eqStore (A : Alg) (hA : A = std) (x : GStore) (hk : ∀ k ∈ zsStore x, (k : Int) ≤ 4611686018427387904) : Real Try.prog 105 [.agg (eStore x), .agg (eStore x)] (.bool true) := by
  obtain ⟨⟨⟨x_Log_Disk_Sectors, x_Log_Disk_Cache⟩, x_Log_Segs, x_Log_Used, x_Log_NextGen, x_Log_NextSeq, x_Log_Stamp, x_Log_NextValid⟩, x_Freed⟩ := x
  obtain ⟨x_Log_Disk_Sectors_r, hx_Log_Disk_Sectors_r⟩ : ∃ r, r = x_Log_Disk_Sectors.map eString := ⟨_, rfl⟩
  have lx_Log_Disk_Sectors_r : A.rlen x_Log_Disk_Sectors_r = (List.length x_Log_Disk_Sectors : Int) := rlen_map hA hx_Log_Disk_Sectors_r
  obtain ⟨x_Log_Disk_Cache_r, hx_Log_Disk_Cache_r⟩ : ∃ r, r = x_Log_Disk_Cache.map eWrite := ⟨_, rfl⟩
  have lx_Log_Disk_Cache_r : A.rlen x_Log_Disk_Cache_r = (List.length x_Log_Disk_Cache : Int) := rlen_map hA hx_Log_Disk_Cache_r
  obtain ⟨x_Log_Used_r, hx_Log_Used_r⟩ : ∃ r, r = x_Log_Used.map eSeg := ⟨_, rfl⟩
  have lx_Log_Used_r : A.rlen x_Log_Used_r = (List.length x_Log_Used : Int) := rlen_map hA hx_Log_Used_r
  obtain ⟨x_Freed_r, hx_Freed_r⟩ : ∃ r, r = x_Freed.map eInt := ⟨_, rfl⟩
  have lx_Freed_r : A.rlen x_Freed_r = (List.length x_Freed : Int) := rlen_map hA hx_Freed_r
  refine real_args (args' := [.agg [.sl 1 x_Log_Disk_Sectors_r, .sl 2 x_Log_Disk_Cache_r, .int .i64 x_Log_Segs, .sl 4 x_Log_Used_r, .int .i64 x_Log_NextGen, .int .i64 x_Log_NextSeq, .int .i64 x_Log_Stamp, .int .i64 x_Log_NextValid, .sl 1 x_Freed_r], .agg [.sl 1 x_Log_Disk_Sectors_r, .sl 2 x_Log_Disk_Cache_r, .int .i64 x_Log_Segs, .sl 4 x_Log_Used_r, .int .i64 x_Log_NextGen, .int .i64 x_Log_NextSeq, .int .i64 x_Log_Stamp, .int .i64 x_Log_NextValid, .sl 1 x_Freed_r]]) (by subst hx_Log_Disk_Sectors_r hx_Log_Disk_Cache_r hx_Log_Used_r hx_Freed_r; rfl) ?_
  refine real tyOk Try.func105 (by kernel_rfl) (afun_of rfl ?_)
  refine go_seq ?_
  refine go_reg ?_
  refine run_aops hA 3 _ _ _ _ (by cbv) ?_
  refine ops_done ?_
  refine go_seq ?_
  refine go_seq ?_
  refine go_reg ?_
  refine run_aops hA 4 _ _ _ _ (by cbv) ?_
  have hc2 : Real Try.prog 133 [.agg [.sl 1 x_Log_Disk_Sectors_r, .sl 2 x_Log_Disk_Cache_r, .int .i64 x_Log_Segs, .sl 4 x_Log_Used_r, .int .i64 x_Log_NextGen, .int .i64 x_Log_NextSeq, .int .i64 x_Log_Stamp, .int .i64 x_Log_NextValid], .agg [.sl 1 x_Log_Disk_Sectors_r, .sl 2 x_Log_Disk_Cache_r, .int .i64 x_Log_Segs, .sl 4 x_Log_Used_r, .int .i64 x_Log_NextGen, .int .i64 x_Log_NextSeq, .int .i64 x_Log_Stamp, .int .i64 x_Log_NextValid]] (.bool true) := by subst hx_Log_Disk_Sectors_r hx_Log_Disk_Cache_r hx_Log_Used_r; exact r_laws_eqLog A hA (⟨⟨x_Log_Disk_Sectors, x_Log_Disk_Cache⟩, x_Log_Segs, x_Log_Used, x_Log_NextGen, x_Log_NextSeq, x_Log_Stamp, x_Log_NextValid⟩ : GLog) (fun k h => hk k (by simp only [zsStore, List.mem_append]; simp only [h, true_or, or_true]))
  refine ops_callV rfl rfl (by cbv) (by cbv) hc2 (.inr rfl) (by cbv) ?_
  refine run_aops hA 1 _ _ _ _ (by cbv) ?_
  refine ops_done ?_
  refine go_cond rfl (fun c3 => ?_) (fun c3 => ?_)
  · skip
    exact absurd (show (A.bnot true) = true from c3) (by rw [show (A.bnot true) = false from by subst hA; rfl]; decide)
  · skip
    refine go_skip ?_
    refine go_seq ?_
    refine go_seq ?_
    refine go_reg ?_
    refine run_aops hA 4 _ _ _ _ (by cbv) ?_
    have hc5 : Real Try.prog 70 [.sl 1 x_Freed_r, .sl 1 x_Freed_r] (.bool true) := by subst hx_Freed_r; exact r_laws_eqIntS A hA x_Freed (fun k h => hk k (by simp only [zsStore, List.mem_append]; simp only [h, true_or, or_true]))
    refine ops_callV rfl rfl (by cbv) (by cbv) hc5 (.inr rfl) (by cbv) ?_
    refine run_aops hA 1 _ _ _ _ (by cbv) ?_
    refine ops_done ?_
    refine go_cond rfl (fun c6 => ?_) (fun c6 => ?_)
    · skip
      exact absurd (show (A.bnot true) = true from c6) (by rw [show (A.bnot true) = false from by subst hA; rfl]; decide)
    · skip
      refine go_skip ?_
      refine go_seq ?_
      refine go_reg ?_
      refine run_aops hA 1 _ _ _ _ (by cbv) ?_
      refine ops_done ?_
      refine go_ret ⟨_, by cbv, ?_⟩
      show _ = (PV.bool true)
      rfl

theorem r_laws_eqBring (A : Alg) (hA : A = std) (x : GBring) (hk : ∀ k ∈ zsBring x, (k : Int) ≤ 4611686018427387904) : Real Try.prog 91 [.agg (eBring x), .agg (eBring x)] (.bool true) := by
  obtain ⟨x_State, x_From, x_To, x_Data⟩ := x
  obtain ⟨x_To_r, hx_To_r⟩ : ∃ r, r = x_To.map eString := ⟨_, rfl⟩
  have lx_To_r : A.rlen x_To_r = (List.length x_To : Int) := rlen_map hA hx_To_r
  obtain ⟨x_Data_r, hx_Data_r⟩ : ∃ r, r = x_Data.map eString := ⟨_, rfl⟩
  have lx_Data_r : A.rlen x_Data_r = (List.length x_Data : Int) := rlen_map hA hx_Data_r
  refine real_args (args' := [.agg [.int .i64 x_State, .str x_From, .sl 1 x_To_r, .sl 1 x_Data_r], .agg [.int .i64 x_State, .str x_From, .sl 1 x_To_r, .sl 1 x_Data_r]]) (by subst hx_To_r hx_Data_r; rfl) ?_
  refine real tyOk Try.func91 (by kernel_rfl) (afun_of rfl ?_)
  refine go_seq ?_
  refine go_reg ?_
  refine run_aops hA 3 _ _ _ _ (by cbv) ?_
  refine ops_done ?_
  refine go_seq ?_
  refine go_seq ?_
  refine go_reg ?_
  refine run_aops hA 5 _ _ _ _ (by cbv) ?_
  refine ops_done ?_
  refine go_cond rfl (fun c1 => ?_) (fun c1 => ?_)
  · skip
    exact absurd (show (A.cmp .neq x_State x_State) = true from c1) (by rw [show (A.cmp .neq x_State x_State) = false from by subst hA; simp [std]]; decide)
  · skip
    refine go_skip ?_
    refine go_seq ?_
    refine go_seq ?_
    refine go_reg ?_
    refine run_aops hA 5 _ _ _ _ (by cbv) ?_
    refine ops_done ?_
    refine go_cond rfl (fun c2 => ?_) (fun c2 => ?_)
    · skip
      exact absurd (show (A.scmp .neq x_From x_From) = true from c2) (by rw [show (A.scmp .neq x_From x_From) = false from by subst hA; simp [std]]; decide)
    · skip
      refine go_skip ?_
      refine go_seq ?_
      refine go_seq ?_
      refine go_reg ?_
      refine run_aops hA 4 _ _ _ _ (by cbv) ?_
      have hc4 : Real Try.prog 35 [.sl 1 x_To_r, .sl 1 x_To_r] (.bool true) := by subst hx_To_r; exact r_laws_eqStringS A hA x_To (fun k h => hk k (by simp only [zsBring, List.mem_append]; simp only [h, true_or, or_true]))
      refine ops_callV rfl rfl (by cbv) (by cbv) hc4 (.inr rfl) (by cbv) ?_
      refine run_aops hA 1 _ _ _ _ (by cbv) ?_
      refine ops_done ?_
      refine go_cond rfl (fun c5 => ?_) (fun c5 => ?_)
      · skip
        exact absurd (show (A.bnot true) = true from c5) (by rw [show (A.bnot true) = false from by subst hA; rfl]; decide)
      · skip
        refine go_skip ?_
        refine go_seq ?_
        refine go_seq ?_
        refine go_reg ?_
        refine run_aops hA 4 _ _ _ _ (by cbv) ?_
        have hc7 : Real Try.prog 35 [.sl 1 x_Data_r, .sl 1 x_Data_r] (.bool true) := by subst hx_Data_r; exact r_laws_eqStringS A hA x_Data (fun k h => hk k (by simp only [zsBring, List.mem_append]; simp only [h, true_or, or_true]))
        refine ops_callV rfl rfl (by cbv) (by cbv) hc7 (.inr rfl) (by cbv) ?_
        refine run_aops hA 1 _ _ _ _ (by cbv) ?_
        refine ops_done ?_
        refine go_cond rfl (fun c8 => ?_) (fun c8 => ?_)
        · skip
          exact absurd (show (A.bnot true) = true from c8) (by rw [show (A.bnot true) = false from by subst hA; rfl]; decide)
        · skip
          refine go_skip ?_
          refine go_seq ?_
          refine go_reg ?_
          refine run_aops hA 1 _ _ _ _ (by cbv) ?_
          refine ops_done ?_
          refine go_ret ⟨_, by cbv, ?_⟩
          show _ = (PV.bool true)
          rfl

theorem r_laws_eqMail (A : Alg) (hA : A = std) (x : GMail) (hk : ∀ k ∈ zsMail x, (k : Int) ≤ 4611686018427387904) : Real Try.prog 145 [.agg (eMail x), .agg (eMail x)] (.bool true) := by
  obtain ⟨x_Uid, x_Flags, x_Text⟩ := x
  refine real_args (args' := [.agg [.int .i64 x_Uid, .int .i64 x_Flags, .str x_Text], .agg [.int .i64 x_Uid, .int .i64 x_Flags, .str x_Text]]) (by rfl) ?_
  refine real tyOk Try.func145 (by kernel_rfl) (afun_of rfl ?_)
  refine go_seq ?_
  refine go_reg ?_
  refine run_aops hA 3 _ _ _ _ (by cbv) ?_
  refine ops_done ?_
  refine go_seq ?_
  refine go_seq ?_
  refine go_reg ?_
  refine run_aops hA 5 _ _ _ _ (by cbv) ?_
  refine ops_done ?_
  refine go_cond rfl (fun c1 => ?_) (fun c1 => ?_)
  · skip
    exact absurd (show (A.cmp .neq x_Uid x_Uid) = true from c1) (by rw [show (A.cmp .neq x_Uid x_Uid) = false from by subst hA; simp [std]]; decide)
  · skip
    refine go_skip ?_
    refine go_seq ?_
    refine go_seq ?_
    refine go_reg ?_
    refine run_aops hA 5 _ _ _ _ (by cbv) ?_
    refine ops_done ?_
    refine go_cond rfl (fun c2 => ?_) (fun c2 => ?_)
    · skip
      exact absurd (show (A.cmp .neq x_Flags x_Flags) = true from c2) (by rw [show (A.cmp .neq x_Flags x_Flags) = false from by subst hA; simp [std]]; decide)
    · skip
      refine go_skip ?_
      refine go_seq ?_
      refine go_seq ?_
      refine go_reg ?_
      refine run_aops hA 5 _ _ _ _ (by cbv) ?_
      refine ops_done ?_
      refine go_cond rfl (fun c3 => ?_) (fun c3 => ?_)
      · skip
        exact absurd (show (A.scmp .neq x_Text x_Text) = true from c3) (by rw [show (A.scmp .neq x_Text x_Text) = false from by subst hA; simp [std]]; decide)
      · skip
        refine go_skip ?_
        refine go_seq ?_
        refine go_reg ?_
        refine run_aops hA 1 _ _ _ _ (by cbv) ?_
        refine ops_done ?_
        refine go_ret ⟨_, by cbv, ?_⟩
        show _ = (PV.bool true)
        rfl

def S128_1 (p0 : List (List PV)) (p1 : Int) : St := { sl := [.sl 3 p0, .sl 3 p0, .bad, .bad, .bad, .int .i64 p1, .bad, .bad, .bad, .bad, .bad, .bad, .bad, .bad, .bad, .bad, .bad, .bad, .bad, .bad, .bad, .bad, .bad, .bad, .bad, .bad, .bad], bl := [] }
theorem r_laws_eqMailS (A : Alg) (hA : A = std) (xs : List GMail) (hk : ∀ k ∈ zsMailS xs, (k : Int) ≤ 4611686018427387904) : Real Try.prog 128 [.sl 3 (List.map eMail xs), .sl 3 (List.map eMail xs)] (.bool true) := by
  obtain ⟨xs_r, hxs_r⟩ : ∃ r, r = xs.map eMail := ⟨_, rfl⟩
  have lxs_r : A.rlen xs_r = (List.length xs : Int) := rlen_map hA hxs_r
  refine real_args (args' := [.sl 3 xs_r, .sl 3 xs_r]) (by subst hxs_r; rfl) ?_
  have hlen : (List.length xs : Int) ≤ 4611686018427387904 := hk _ (by simp [zsMailS])
  refine real tyOk Try.func128 (by kernel_rfl) (afun_of rfl ?_)
  refine go_seq ?_
  refine go_reg ?_
  refine run_aops hA 1 _ _ _ _ (by cbv) ?_
  refine ops_done ?_
  refine go_seq ?_
  refine go_seq ?_
  refine go_reg ?_
  refine run_aops hA 5 _ _ _ _ (by cbv) ?_
  refine ops_done ?_
  refine go_cond rfl (fun c1 => ?_) (fun c1 => ?_)
  · skip
    exact absurd (show (A.cmp .neq (A.rlen xs_r) (A.rlen xs_r)) = true from c1) (by rw [show (A.cmp .neq (A.rlen xs_r) (A.rlen xs_r)) = false from by subst hA; simp [std]]; decide)
  · skip
    refine go_skip ?_
    refine go_seq ?_
    refine go_seq ?_
    refine go_reg ?_
    refine run_aops hA 1 _ _ _ _ (by cbv) ?_
    refine ops_done ?_
    refine go_block ?_
    refine go_loopE (fun σ m => ∃ (i : Nat) (n5 : Int), σ = (S128_1 xs_r n5) ∧ (n5 = (i : Int) ∧ i ≤ List.length xs) ∧ m = List.length xs - i) _ [] [0, 1, 5] [] (S128_1 xs_r 0) rfl (by cbv) ⟨0, 0, rfl, ?_, rfl⟩ (fun σ m hI => ?_)
    · skip
      exact ⟨rfl, Nat.zero_le _⟩
    obtain ⟨i, n5, rfl, ⟨hn5, hi⟩, rfl⟩ := hI
    refine go_seq ?_
    refine go_seq ?_
    refine go_reg ?_
    refine run_aops hA 4 _ _ _ _ (by cbv) ?_
    refine ops_done ?_
    refine go_cond rfl (fun c2 => ?_) (fun c2 => ?_)
    · skip
      have ec2 : n5 < (A.rlen xs_r) := lss_t hA c2
      refine go_skip ?_
      refine go_seq ?_
      refine go_block ?_
      refine go_seq ?_
      refine go_draw (by cbv) ?_
      refine run_dops hA 2 _ _ _ _ (by cbv) ?_
      have h0x3 : (0 : Int) ≤ n5 := by
        omega
      have hlx3 : (Int.toNat n5) < List.length xs := by
        omega
      obtain ⟨x3, hx3⟩ : ∃ x, (xs)[(Int.toNat n5)]? = some x := ⟨_, List.getElem?_eq_getElem hlx3⟩
      have hmx3 := List.mem_of_getElem? hx3
      obtain ⟨x3_Uid, x3_Flags, x3_Text⟩ := x3
      have hrx3 : xs_r[(Int.toNat n5)]? = some [.int .i64 x3_Uid, .int .i64 x3_Flags, .str x3_Text] := by
        exact map_at eMail hxs_r hx3
      have hkx := fun (k : Nat) h => hk k (List.mem_cons_of_mem _ (List.mem_flatMap.2 ⟨_, hmx3, h⟩))
      refine dops_step rfl rfl rfl (idx_sl rfl rfl rfl rfl rfl h0x3 rfl hrx3) ?_
      refine run_dops hA 3 _ _ _ _ (by cbv) ?_
      refine dops_step rfl rfl rfl (idx_sl rfl rfl rfl rfl rfl h0x3 rfl hrx3) ?_
      refine run_dops hA 1 _ _ _ _ (by cbv) ?_
      have hc5 : Real Try.prog 145 [.agg [.int .i64 x3_Uid, .int .i64 x3_Flags, .str x3_Text], .agg [.int .i64 x3_Uid, .int .i64 x3_Flags, .str x3_Text]] (.bool true) := by exact r_laws_eqMail A hA (⟨x3_Uid, x3_Flags, x3_Text⟩ : GMail) hkx
      refine dops_callV rfl rfl (by cbv) (by cbv) hc5 (.inr rfl) ?_
      refine run_dops hA 1 _ _ _ _ (by cbv) ?_
      refine dops_done ?_
      refine go_cond rfl (fun c6 => ?_) (fun c6 => ?_)
      · skip
        exact absurd (show (A.bnot true) = true from c6) (by rw [show (A.bnot true) = false from by subst hA; rfl]; decide)
      · skip
        refine go_skip ?_
        refine go_reg ?_
        refine run_aops hA 3 _ _ _ _ (by cbv) ?_
        refine ops_done ?_
        refine ⟨(S128_1 xs_r (A.num .add .i64 n5 1)), List.length xs - (i + 1), ?_, by cbv, i + 1, (A.num .add .i64 n5 1), rfl, ?_, rfl⟩
        · skip
          omega
        · skip
          exact ⟨by rw [add_i64 hA (by omega) (by omega)]; omega, by omega⟩
    · skip
      have ec2 : (A.rlen xs_r) ≤ n5 := lss_f hA c2
      refine go_exit ⟨fun _ => ?_, fun h => absurd rfl h⟩
      refine go_seq ?_
      refine go_reg ?_
      refine run_aops hA 1 _ _ _ _ (by cbv) ?_
      refine ops_done ?_
      refine go_ret ⟨_, by cbv, ?_⟩
      show _ = (PV.bool true)
      rfl

def S129_1 (p0 : List (List PV)) (p1 : Int) : St := { sl := [.sl 1 p0, .sl 1 p0, .bad, .bad, .bad, .int .i64 p1, .bad, .bad, .bad, .bad, .bad, .bad, .bad, .bad, .bad, .bad, .bad, .bad, .bad, .bad, .bad, .bad, .bad, .bad, .bad, .bad], bl := [] }
theorem r_laws_eqBoolS (A : Alg) (hA : A = std) (xs : List Bool) (hk : ∀ k ∈ zsBoolS xs, (k : Int) ≤ 4611686018427387904) : Real Try.prog 129 [.sl 1 (List.map eBool xs), .sl 1 (List.map eBool xs)] (.bool true) := by
  obtain ⟨xs_r, hxs_r⟩ : ∃ r, r = xs.map eBool := ⟨_, rfl⟩
  have lxs_r : A.rlen xs_r = (List.length xs : Int) := rlen_map hA hxs_r
  refine real_args (args' := [.sl 1 xs_r, .sl 1 xs_r]) (by subst hxs_r; rfl) ?_
  have hlen : (List.length xs : Int) ≤ 4611686018427387904 := hk _ (by simp [zsBoolS])
  refine real tyOk Try.func129 (by kernel_rfl) (afun_of rfl ?_)
  refine go_seq ?_
  refine go_reg ?_
  refine run_aops hA 1 _ _ _ _ (by cbv) ?_
  refine ops_done ?_
  refine go_seq ?_
  refine go_seq ?_
  refine go_reg ?_
  refine run_aops hA 5 _ _ _ _ (by cbv) ?_
  refine ops_done ?_
  refine go_cond rfl (fun c1 => ?_) (fun c1 => ?_)
  · skip
    exact absurd (show (A.cmp .neq (A.rlen xs_r) (A.rlen xs_r)) = true from c1) (by rw [show (A.cmp .neq (A.rlen xs_r) (A.rlen xs_r)) = false from by subst hA; simp [std]]; decide)
  · skip
    refine go_skip ?_
    refine go_seq ?_
    refine go_seq ?_
    refine go_reg ?_
    refine run_aops hA 1 _ _ _ _ (by cbv) ?_
    refine ops_done ?_
    refine go_block ?_
    refine go_loopE (fun σ m => ∃ (i : Nat) (n5 : Int), σ = (S129_1 xs_r n5) ∧ (n5 = (i : Int) ∧ i ≤ List.length xs) ∧ m = List.length xs - i) _ [] [0, 1, 5] [] (S129_1 xs_r 0) rfl (by cbv) ⟨0, 0, rfl, ?_, rfl⟩ (fun σ m hI => ?_)
    · skip
      exact ⟨rfl, Nat.zero_le _⟩
    obtain ⟨i, n5, rfl, ⟨hn5, hi⟩, rfl⟩ := hI
    refine go_seq ?_
    refine go_seq ?_
    refine go_reg ?_
    refine run_aops hA 4 _ _ _ _ (by cbv) ?_
    refine ops_done ?_
    refine go_cond rfl (fun c2 => ?_) (fun c2 => ?_)
    · skip
      have ec2 : n5 < (A.rlen xs_r) := lss_t hA c2
      refine go_skip ?_
      refine go_seq ?_
      refine go_block ?_
      refine go_seq ?_
      refine go_draw (by cbv) ?_
      refine run_dops hA 2 _ _ _ _ (by cbv) ?_
      have h0x3 : (0 : Int) ≤ n5 := by
        omega
      have hlx3 : (Int.toNat n5) < List.length xs := by
        omega
      obtain ⟨x3, hx3⟩ : ∃ x, (xs)[(Int.toNat n5)]? = some x := ⟨_, List.getElem?_eq_getElem hlx3⟩
      have hmx3 := List.mem_of_getElem? hx3
      have hrx3 : xs_r[(Int.toNat n5)]? = some [.bool x3] := by
        exact map_at eBool hxs_r hx3
      refine dops_step rfl rfl rfl (idx_sl rfl rfl rfl rfl rfl h0x3 rfl hrx3) ?_
      refine run_dops hA 3 _ _ _ _ (by cbv) ?_
      refine dops_step rfl rfl rfl (idx_sl rfl rfl rfl rfl rfl h0x3 rfl hrx3) ?_
      refine run_dops hA 2 _ _ _ _ (by cbv) ?_
      refine dops_done ?_
      refine go_cond rfl (fun c4 => ?_) (fun c4 => ?_)
      · skip
        exact absurd (show (A.bnot (A.beq x3 x3)) = true from c4) (by rw [show (A.bnot (A.beq x3 x3)) = false from by subst hA; simp [std]]; decide)
      · skip
        refine go_skip ?_
        refine go_reg ?_
        refine run_aops hA 3 _ _ _ _ (by cbv) ?_
        refine ops_done ?_
        refine ⟨(S129_1 xs_r (A.num .add .i64 n5 1)), List.length xs - (i + 1), ?_, by cbv, i + 1, (A.num .add .i64 n5 1), rfl, ?_, rfl⟩
        · skip
          omega
        · skip
          exact ⟨by rw [add_i64 hA (by omega) (by omega)]; omega, by omega⟩
    · skip
      have ec2 : (A.rlen xs_r) ≤ n5 := lss_f hA c2
      refine go_exit ⟨fun _ => ?_, fun h => absurd rfl h⟩
      refine go_seq ?_
      refine go_reg ?_
      refine run_aops hA 1 _ _ _ _ (by cbv) ?_
      refine ops_done ?_
      refine go_ret ⟨_, by cbv, ?_⟩
      show _ = (PV.bool true)
      rfl

theorem r_laws_eqFetch (A : Alg) (hA : A = std) (x : GFetch) (hk : ∀ k ∈ zsFetch x, (k : Int) ≤ 4611686018427387904) : Real Try.prog 92 [.agg (eFetch x), .agg (eFetch x)] (.bool true) := by
  obtain ⟨x_State, x_User, x_Mails, x_Gone⟩ := x
  obtain ⟨x_Mails_r, hx_Mails_r⟩ : ∃ r, r = x_Mails.map eMail := ⟨_, rfl⟩
  have lx_Mails_r : A.rlen x_Mails_r = (List.length x_Mails : Int) := rlen_map hA hx_Mails_r
  obtain ⟨x_Gone_r, hx_Gone_r⟩ : ∃ r, r = x_Gone.map eBool := ⟨_, rfl⟩
  have lx_Gone_r : A.rlen x_Gone_r = (List.length x_Gone : Int) := rlen_map hA hx_Gone_r
  refine real_args (args' := [.agg [.int .i64 x_State, .str x_User, .sl 3 x_Mails_r, .sl 1 x_Gone_r], .agg [.int .i64 x_State, .str x_User, .sl 3 x_Mails_r, .sl 1 x_Gone_r]]) (by subst hx_Mails_r hx_Gone_r; rfl) ?_
  refine real tyOk Try.func92 (by kernel_rfl) (afun_of rfl ?_)
  refine go_seq ?_
  refine go_reg ?_
  refine run_aops hA 3 _ _ _ _ (by cbv) ?_
  refine ops_done ?_
  refine go_seq ?_
  refine go_seq ?_
  refine go_reg ?_
  refine run_aops hA 5 _ _ _ _ (by cbv) ?_
  refine ops_done ?_
  refine go_cond rfl (fun c1 => ?_) (fun c1 => ?_)
  · skip
    exact absurd (show (A.cmp .neq x_State x_State) = true from c1) (by rw [show (A.cmp .neq x_State x_State) = false from by subst hA; simp [std]]; decide)
  · skip
    refine go_skip ?_
    refine go_seq ?_
    refine go_seq ?_
    refine go_reg ?_
    refine run_aops hA 5 _ _ _ _ (by cbv) ?_
    refine ops_done ?_
    refine go_cond rfl (fun c2 => ?_) (fun c2 => ?_)
    · skip
      exact absurd (show (A.scmp .neq x_User x_User) = true from c2) (by rw [show (A.scmp .neq x_User x_User) = false from by subst hA; simp [std]]; decide)
    · skip
      refine go_skip ?_
      refine go_seq ?_
      refine go_seq ?_
      refine go_reg ?_
      refine run_aops hA 4 _ _ _ _ (by cbv) ?_
      have hc4 : Real Try.prog 128 [.sl 3 x_Mails_r, .sl 3 x_Mails_r] (.bool true) := by subst hx_Mails_r; exact r_laws_eqMailS A hA x_Mails (fun k h => hk k (by simp only [zsFetch, List.mem_append]; simp only [h, true_or, or_true]))
      refine ops_callV rfl rfl (by cbv) (by cbv) hc4 (.inr rfl) (by cbv) ?_
      refine run_aops hA 1 _ _ _ _ (by cbv) ?_
      refine ops_done ?_
      refine go_cond rfl (fun c5 => ?_) (fun c5 => ?_)
      · skip
        exact absurd (show (A.bnot true) = true from c5) (by rw [show (A.bnot true) = false from by subst hA; rfl]; decide)
      · skip
        refine go_skip ?_
        refine go_seq ?_
        refine go_seq ?_
        refine go_reg ?_
        refine run_aops hA 4 _ _ _ _ (by cbv) ?_
        have hc7 : Real Try.prog 129 [.sl 1 x_Gone_r, .sl 1 x_Gone_r] (.bool true) := by subst hx_Gone_r; exact r_laws_eqBoolS A hA x_Gone (fun k h => hk k (by simp only [zsFetch, List.mem_append]; simp only [h, true_or, or_true]))
        refine ops_callV rfl rfl (by cbv) (by cbv) hc7 (.inr rfl) (by cbv) ?_
        refine run_aops hA 1 _ _ _ _ (by cbv) ?_
        refine ops_done ?_
        refine go_cond rfl (fun c8 => ?_) (fun c8 => ?_)
        · skip
          exact absurd (show (A.bnot true) = true from c8) (by rw [show (A.bnot true) = false from by subst hA; rfl]; decide)
        · skip
          refine go_skip ?_
          refine go_seq ?_
          refine go_reg ?_
          refine run_aops hA 1 _ _ _ _ (by cbv) ?_
          refine ops_done ?_
          refine go_ret ⟨_, by cbv, ?_⟩
          show _ = (PV.bool true)
          rfl

theorem r_laws_eqLook (A : Alg) (hA : A = std) (x : GLook) (hk : ∀ k ∈ zsLook x, (k : Int) ≤ 4611686018427387904) : Real Try.prog 93 [.agg (eLook x), .agg (eLook x)] (.bool true) := by
  obtain ⟨x_State, x_User, x_Box, x_Valid, x_Uids⟩ := x
  obtain ⟨x_Uids_r, hx_Uids_r⟩ : ∃ r, r = x_Uids.map eInt := ⟨_, rfl⟩
  have lx_Uids_r : A.rlen x_Uids_r = (List.length x_Uids : Int) := rlen_map hA hx_Uids_r
  refine real_args (args' := [.agg [.int .i64 x_State, .str x_User, .str x_Box, .int .i64 x_Valid, .sl 1 x_Uids_r], .agg [.int .i64 x_State, .str x_User, .str x_Box, .int .i64 x_Valid, .sl 1 x_Uids_r]]) (by subst hx_Uids_r; rfl) ?_
  refine real tyOk Try.func93 (by kernel_rfl) (afun_of rfl ?_)
  refine go_seq ?_
  refine go_reg ?_
  refine run_aops hA 3 _ _ _ _ (by cbv) ?_
  refine ops_done ?_
  refine go_seq ?_
  refine go_seq ?_
  refine go_reg ?_
  refine run_aops hA 5 _ _ _ _ (by cbv) ?_
  refine ops_done ?_
  refine go_cond rfl (fun c1 => ?_) (fun c1 => ?_)
  · skip
    exact absurd (show (A.cmp .neq x_State x_State) = true from c1) (by rw [show (A.cmp .neq x_State x_State) = false from by subst hA; simp [std]]; decide)
  · skip
    refine go_skip ?_
    refine go_seq ?_
    refine go_seq ?_
    refine go_reg ?_
    refine run_aops hA 5 _ _ _ _ (by cbv) ?_
    refine ops_done ?_
    refine go_cond rfl (fun c2 => ?_) (fun c2 => ?_)
    · skip
      exact absurd (show (A.scmp .neq x_User x_User) = true from c2) (by rw [show (A.scmp .neq x_User x_User) = false from by subst hA; simp [std]]; decide)
    · skip
      refine go_skip ?_
      refine go_seq ?_
      refine go_seq ?_
      refine go_reg ?_
      refine run_aops hA 5 _ _ _ _ (by cbv) ?_
      refine ops_done ?_
      refine go_cond rfl (fun c3 => ?_) (fun c3 => ?_)
      · skip
        exact absurd (show (A.scmp .neq x_Box x_Box) = true from c3) (by rw [show (A.scmp .neq x_Box x_Box) = false from by subst hA; simp [std]]; decide)
      · skip
        refine go_skip ?_
        refine go_seq ?_
        refine go_seq ?_
        refine go_reg ?_
        refine run_aops hA 5 _ _ _ _ (by cbv) ?_
        refine ops_done ?_
        refine go_cond rfl (fun c4 => ?_) (fun c4 => ?_)
        · skip
          exact absurd (show (A.cmp .neq x_Valid x_Valid) = true from c4) (by rw [show (A.cmp .neq x_Valid x_Valid) = false from by subst hA; simp [std]]; decide)
        · skip
          refine go_skip ?_
          refine go_seq ?_
          refine go_seq ?_
          refine go_reg ?_
          refine run_aops hA 4 _ _ _ _ (by cbv) ?_
          have hc6 : Real Try.prog 70 [.sl 1 x_Uids_r, .sl 1 x_Uids_r] (.bool true) := by subst hx_Uids_r; exact r_laws_eqIntS A hA x_Uids (fun k h => hk k (by simp only [zsLook, List.mem_append]; simp only [h, true_or, or_true]))
          refine ops_callV rfl rfl (by cbv) (by cbv) hc6 (.inr rfl) (by cbv) ?_
          refine run_aops hA 1 _ _ _ _ (by cbv) ?_
          refine ops_done ?_
          refine go_cond rfl (fun c7 => ?_) (fun c7 => ?_)
          · skip
            exact absurd (show (A.bnot true) = true from c7) (by rw [show (A.bnot true) = false from by subst hA; rfl]; decide)
          · skip
            refine go_skip ?_
            refine go_seq ?_
            refine go_reg ?_
            refine run_aops hA 1 _ _ _ _ (by cbv) ?_
            refine ops_done ?_
            refine go_ret ⟨_, by cbv, ?_⟩
            show _ = (PV.bool true)
            rfl

theorem r_laws_eqSession (A : Alg) (hA : A = std) (x : GSession) (hk : ∀ k ∈ zsSession x, (k : Int) ≤ 4611686018427387904) : Real Try.prog 56 [.agg (eSession x), .agg (eSession x)] (.bool true) := by
  obtain ⟨x_Kind, x_In, x_Out, x_Over, ⟨x_Bring_State, x_Bring_From, x_Bring_To, x_Bring_Data⟩, ⟨x_Fetch_State, x_Fetch_User, x_Fetch_Mails, x_Fetch_Gone⟩, ⟨x_Look_State, x_Look_User, x_Look_Box, x_Look_Valid, x_Look_Uids⟩⟩ := x
  obtain ⟨x_Bring_To_r, hx_Bring_To_r⟩ : ∃ r, r = x_Bring_To.map eString := ⟨_, rfl⟩
  have lx_Bring_To_r : A.rlen x_Bring_To_r = (List.length x_Bring_To : Int) := rlen_map hA hx_Bring_To_r
  obtain ⟨x_Bring_Data_r, hx_Bring_Data_r⟩ : ∃ r, r = x_Bring_Data.map eString := ⟨_, rfl⟩
  have lx_Bring_Data_r : A.rlen x_Bring_Data_r = (List.length x_Bring_Data : Int) := rlen_map hA hx_Bring_Data_r
  obtain ⟨x_Fetch_Mails_r, hx_Fetch_Mails_r⟩ : ∃ r, r = x_Fetch_Mails.map eMail := ⟨_, rfl⟩
  have lx_Fetch_Mails_r : A.rlen x_Fetch_Mails_r = (List.length x_Fetch_Mails : Int) := rlen_map hA hx_Fetch_Mails_r
  obtain ⟨x_Fetch_Gone_r, hx_Fetch_Gone_r⟩ : ∃ r, r = x_Fetch_Gone.map eBool := ⟨_, rfl⟩
  have lx_Fetch_Gone_r : A.rlen x_Fetch_Gone_r = (List.length x_Fetch_Gone : Int) := rlen_map hA hx_Fetch_Gone_r
  obtain ⟨x_Look_Uids_r, hx_Look_Uids_r⟩ : ∃ r, r = x_Look_Uids.map eInt := ⟨_, rfl⟩
  have lx_Look_Uids_r : A.rlen x_Look_Uids_r = (List.length x_Look_Uids : Int) := rlen_map hA hx_Look_Uids_r
  refine real_args (args' := [.agg [.int .i64 x_Kind, .str x_In, .str x_Out, .bool x_Over, .int .i64 x_Bring_State, .str x_Bring_From, .sl 1 x_Bring_To_r, .sl 1 x_Bring_Data_r, .int .i64 x_Fetch_State, .str x_Fetch_User, .sl 3 x_Fetch_Mails_r, .sl 1 x_Fetch_Gone_r, .int .i64 x_Look_State, .str x_Look_User, .str x_Look_Box, .int .i64 x_Look_Valid, .sl 1 x_Look_Uids_r], .agg [.int .i64 x_Kind, .str x_In, .str x_Out, .bool x_Over, .int .i64 x_Bring_State, .str x_Bring_From, .sl 1 x_Bring_To_r, .sl 1 x_Bring_Data_r, .int .i64 x_Fetch_State, .str x_Fetch_User, .sl 3 x_Fetch_Mails_r, .sl 1 x_Fetch_Gone_r, .int .i64 x_Look_State, .str x_Look_User, .str x_Look_Box, .int .i64 x_Look_Valid, .sl 1 x_Look_Uids_r]]) (by subst hx_Bring_To_r hx_Bring_Data_r hx_Fetch_Mails_r hx_Fetch_Gone_r hx_Look_Uids_r; rfl) ?_
  refine real tyOk Try.func56 (by kernel_rfl) (afun_of rfl ?_)
  refine go_seq ?_
  refine go_reg ?_
  refine run_aops hA 3 _ _ _ _ (by cbv) ?_
  refine ops_done ?_
  refine go_seq ?_
  refine go_seq ?_
  refine go_reg ?_
  refine run_aops hA 5 _ _ _ _ (by cbv) ?_
  refine ops_done ?_
  refine go_cond rfl (fun c1 => ?_) (fun c1 => ?_)
  · skip
    exact absurd (show (A.cmp .neq x_Kind x_Kind) = true from c1) (by rw [show (A.cmp .neq x_Kind x_Kind) = false from by subst hA; simp [std]]; decide)
  · skip
    refine go_skip ?_
    refine go_seq ?_
    refine go_seq ?_
    refine go_reg ?_
    refine run_aops hA 5 _ _ _ _ (by cbv) ?_
    refine ops_done ?_
    refine go_cond rfl (fun c2 => ?_) (fun c2 => ?_)
    · skip
      exact absurd (show (A.scmp .neq x_In x_In) = true from c2) (by rw [show (A.scmp .neq x_In x_In) = false from by subst hA; simp [std]]; decide)
    · skip
      refine go_skip ?_
      refine go_seq ?_
      refine go_seq ?_
      refine go_reg ?_
      refine run_aops hA 5 _ _ _ _ (by cbv) ?_
      refine ops_done ?_
      refine go_cond rfl (fun c3 => ?_) (fun c3 => ?_)
      · skip
        exact absurd (show (A.scmp .neq x_Out x_Out) = true from c3) (by rw [show (A.scmp .neq x_Out x_Out) = false from by subst hA; simp [std]]; decide)
      · skip
        refine go_skip ?_
        refine go_seq ?_
        refine go_seq ?_
        refine go_reg ?_
        refine run_aops hA 5 _ _ _ _ (by cbv) ?_
        refine ops_done ?_
        refine go_cond rfl (fun c4 => ?_) (fun c4 => ?_)
        · skip
          exact absurd (show (A.bnot (A.beq x_Over x_Over)) = true from c4) (by rw [show (A.bnot (A.beq x_Over x_Over)) = false from by subst hA; simp [std]]; decide)
        · skip
          refine go_skip ?_
          refine go_seq ?_
          refine go_seq ?_
          refine go_reg ?_
          refine run_aops hA 4 _ _ _ _ (by cbv) ?_
          have hc6 : Real Try.prog 91 [.agg [.int .i64 x_Bring_State, .str x_Bring_From, .sl 1 x_Bring_To_r, .sl 1 x_Bring_Data_r], .agg [.int .i64 x_Bring_State, .str x_Bring_From, .sl 1 x_Bring_To_r, .sl 1 x_Bring_Data_r]] (.bool true) := by subst hx_Bring_To_r hx_Bring_Data_r; exact r_laws_eqBring A hA (⟨x_Bring_State, x_Bring_From, x_Bring_To, x_Bring_Data⟩ : GBring) (fun k h => hk k (by simp only [zsSession, List.mem_append]; simp only [h, true_or, or_true]))
          refine ops_callV rfl rfl (by cbv) (by cbv) hc6 (.inr rfl) (by cbv) ?_
          refine run_aops hA 1 _ _ _ _ (by cbv) ?_
          refine ops_done ?_
          refine go_cond rfl (fun c7 => ?_) (fun c7 => ?_)
          · skip
            exact absurd (show (A.bnot true) = true from c7) (by rw [show (A.bnot true) = false from by subst hA; rfl]; decide)
          · skip
            refine go_skip ?_
            refine go_seq ?_
            refine go_seq ?_
            refine go_reg ?_
            refine run_aops hA 4 _ _ _ _ (by cbv) ?_
            have hc9 : Real Try.prog 92 [.agg [.int .i64 x_Fetch_State, .str x_Fetch_User, .sl 3 x_Fetch_Mails_r, .sl 1 x_Fetch_Gone_r], .agg [.int .i64 x_Fetch_State, .str x_Fetch_User, .sl 3 x_Fetch_Mails_r, .sl 1 x_Fetch_Gone_r]] (.bool true) := by subst hx_Fetch_Mails_r hx_Fetch_Gone_r; exact r_laws_eqFetch A hA (⟨x_Fetch_State, x_Fetch_User, x_Fetch_Mails, x_Fetch_Gone⟩ : GFetch) (fun k h => hk k (by simp only [zsSession, List.mem_append]; simp only [h, true_or, or_true]))
            refine ops_callV rfl rfl (by cbv) (by cbv) hc9 (.inr rfl) (by cbv) ?_
            refine run_aops hA 1 _ _ _ _ (by cbv) ?_
            refine ops_done ?_
            refine go_cond rfl (fun c10 => ?_) (fun c10 => ?_)
            · skip
              exact absurd (show (A.bnot true) = true from c10) (by rw [show (A.bnot true) = false from by subst hA; rfl]; decide)
            · skip
              refine go_skip ?_
              refine go_seq ?_
              refine go_seq ?_
              refine go_reg ?_
              refine run_aops hA 4 _ _ _ _ (by cbv) ?_
              have hc12 : Real Try.prog 93 [.agg [.int .i64 x_Look_State, .str x_Look_User, .str x_Look_Box, .int .i64 x_Look_Valid, .sl 1 x_Look_Uids_r], .agg [.int .i64 x_Look_State, .str x_Look_User, .str x_Look_Box, .int .i64 x_Look_Valid, .sl 1 x_Look_Uids_r]] (.bool true) := by subst hx_Look_Uids_r; exact r_laws_eqLook A hA (⟨x_Look_State, x_Look_User, x_Look_Box, x_Look_Valid, x_Look_Uids⟩ : GLook) (fun k h => hk k (by simp only [zsSession, List.mem_append]; simp only [h, true_or, or_true]))
              refine ops_callV rfl rfl (by cbv) (by cbv) hc12 (.inr rfl) (by cbv) ?_
              refine run_aops hA 1 _ _ _ _ (by cbv) ?_
              refine ops_done ?_
              refine go_cond rfl (fun c13 => ?_) (fun c13 => ?_)
              · skip
                exact absurd (show (A.bnot true) = true from c13) (by rw [show (A.bnot true) = false from by subst hA; rfl]; decide)
              · skip
                refine go_skip ?_
                refine go_seq ?_
                refine go_reg ?_
                refine run_aops hA 1 _ _ _ _ (by cbv) ?_
                refine ops_done ?_
                refine go_ret ⟨_, by cbv, ?_⟩
                show _ = (PV.bool true)
                rfl

def S24_1 (p0 : List (List PV)) (p1 : Int) : St := { sl := [.sl 17 p0, .sl 17 p0, .bad, .bad, .bad, .int .i64 p1, .bad, .bad, .bad, .bad, .bad, .bad, .bad, .bad, .bad, .bad, .bad, .bad, .bad, .bad, .bad, .bad, .bad, .bad, .bad, .bad, .bad], bl := [] }
theorem r_laws_eqSessionS (A : Alg) (hA : A = std) (xs : List GSession) (hk : ∀ k ∈ zsSessionS xs, (k : Int) ≤ 4611686018427387904) : Real Try.prog 24 [.sl 17 (List.map eSession xs), .sl 17 (List.map eSession xs)] (.bool true) := by
  obtain ⟨xs_r, hxs_r⟩ : ∃ r, r = xs.map eSession := ⟨_, rfl⟩
  have lxs_r : A.rlen xs_r = (List.length xs : Int) := rlen_map hA hxs_r
  refine real_args (args' := [.sl 17 xs_r, .sl 17 xs_r]) (by subst hxs_r; rfl) ?_
  have hlen : (List.length xs : Int) ≤ 4611686018427387904 := hk _ (by simp [zsSessionS])
  refine real tyOk Try.func24 (by kernel_rfl) (afun_of rfl ?_)
  refine go_seq ?_
  refine go_reg ?_
  refine run_aops hA 1 _ _ _ _ (by cbv) ?_
  refine ops_done ?_
  refine go_seq ?_
  refine go_seq ?_
  refine go_reg ?_
  refine run_aops hA 5 _ _ _ _ (by cbv) ?_
  refine ops_done ?_
  refine go_cond rfl (fun c1 => ?_) (fun c1 => ?_)
  · skip
    exact absurd (show (A.cmp .neq (A.rlen xs_r) (A.rlen xs_r)) = true from c1) (by rw [show (A.cmp .neq (A.rlen xs_r) (A.rlen xs_r)) = false from by subst hA; simp [std]]; decide)
  · skip
    refine go_skip ?_
    refine go_seq ?_
    refine go_seq ?_
    refine go_reg ?_
    refine run_aops hA 1 _ _ _ _ (by cbv) ?_
    refine ops_done ?_
    refine go_block ?_
    refine go_loopE (fun σ m => ∃ (i : Nat) (n5 : Int), σ = (S24_1 xs_r n5) ∧ (n5 = (i : Int) ∧ i ≤ List.length xs) ∧ m = List.length xs - i) _ [] [0, 1, 5] [] (S24_1 xs_r 0) rfl (by cbv) ⟨0, 0, rfl, ?_, rfl⟩ (fun σ m hI => ?_)
    · skip
      exact ⟨rfl, Nat.zero_le _⟩
    obtain ⟨i, n5, rfl, ⟨hn5, hi⟩, rfl⟩ := hI
    refine go_seq ?_
    refine go_seq ?_
    refine go_reg ?_
    refine run_aops hA 4 _ _ _ _ (by cbv) ?_
    refine ops_done ?_
    refine go_cond rfl (fun c2 => ?_) (fun c2 => ?_)
    · skip
      have ec2 : n5 < (A.rlen xs_r) := lss_t hA c2
      refine go_skip ?_
      refine go_seq ?_
      refine go_block ?_
      refine go_seq ?_
      refine go_draw (by cbv) ?_
      refine run_dops hA 2 _ _ _ _ (by cbv) ?_
      have h0x3 : (0 : Int) ≤ n5 := by
        omega
      have hlx3 : (Int.toNat n5) < List.length xs := by
        omega
      obtain ⟨x3, hx3⟩ : ∃ x, (xs)[(Int.toNat n5)]? = some x := ⟨_, List.getElem?_eq_getElem hlx3⟩
      have hmx3 := List.mem_of_getElem? hx3
      obtain ⟨x3_Kind, x3_In, x3_Out, x3_Over, ⟨x3_Bring_State, x3_Bring_From, x3_Bring_To, x3_Bring_Data⟩, ⟨x3_Fetch_State, x3_Fetch_User, x3_Fetch_Mails, x3_Fetch_Gone⟩, ⟨x3_Look_State, x3_Look_User, x3_Look_Box, x3_Look_Valid, x3_Look_Uids⟩⟩ := x3
      obtain ⟨x3_Bring_To_r, hx3_Bring_To_r⟩ : ∃ r, r = x3_Bring_To.map eString := ⟨_, rfl⟩
      have lx3_Bring_To_r : A.rlen x3_Bring_To_r = (List.length x3_Bring_To : Int) := rlen_map hA hx3_Bring_To_r
      obtain ⟨x3_Bring_Data_r, hx3_Bring_Data_r⟩ : ∃ r, r = x3_Bring_Data.map eString := ⟨_, rfl⟩
      have lx3_Bring_Data_r : A.rlen x3_Bring_Data_r = (List.length x3_Bring_Data : Int) := rlen_map hA hx3_Bring_Data_r
      obtain ⟨x3_Fetch_Mails_r, hx3_Fetch_Mails_r⟩ : ∃ r, r = x3_Fetch_Mails.map eMail := ⟨_, rfl⟩
      have lx3_Fetch_Mails_r : A.rlen x3_Fetch_Mails_r = (List.length x3_Fetch_Mails : Int) := rlen_map hA hx3_Fetch_Mails_r
      obtain ⟨x3_Fetch_Gone_r, hx3_Fetch_Gone_r⟩ : ∃ r, r = x3_Fetch_Gone.map eBool := ⟨_, rfl⟩
      have lx3_Fetch_Gone_r : A.rlen x3_Fetch_Gone_r = (List.length x3_Fetch_Gone : Int) := rlen_map hA hx3_Fetch_Gone_r
      obtain ⟨x3_Look_Uids_r, hx3_Look_Uids_r⟩ : ∃ r, r = x3_Look_Uids.map eInt := ⟨_, rfl⟩
      have lx3_Look_Uids_r : A.rlen x3_Look_Uids_r = (List.length x3_Look_Uids : Int) := rlen_map hA hx3_Look_Uids_r
      have hrx3 : xs_r[(Int.toNat n5)]? = some [.int .i64 x3_Kind, .str x3_In, .str x3_Out, .bool x3_Over, .int .i64 x3_Bring_State, .str x3_Bring_From, .sl 1 x3_Bring_To_r, .sl 1 x3_Bring_Data_r, .int .i64 x3_Fetch_State, .str x3_Fetch_User, .sl 3 x3_Fetch_Mails_r, .sl 1 x3_Fetch_Gone_r, .int .i64 x3_Look_State, .str x3_Look_User, .str x3_Look_Box, .int .i64 x3_Look_Valid, .sl 1 x3_Look_Uids_r] := by
        subst hx3_Bring_To_r hx3_Bring_Data_r hx3_Fetch_Mails_r hx3_Fetch_Gone_r hx3_Look_Uids_r; exact map_at eSession hxs_r hx3
      have hkx := fun (k : Nat) h => hk k (List.mem_cons_of_mem _ (List.mem_flatMap.2 ⟨_, hmx3, h⟩))
      refine dops_step rfl rfl rfl (idx_sl rfl rfl rfl rfl rfl h0x3 rfl hrx3) ?_
      refine run_dops hA 3 _ _ _ _ (by cbv) ?_
      refine dops_step rfl rfl rfl (idx_sl rfl rfl rfl rfl rfl h0x3 rfl hrx3) ?_
      refine run_dops hA 1 _ _ _ _ (by cbv) ?_
      have hc5 : Real Try.prog 56 [.agg [.int .i64 x3_Kind, .str x3_In, .str x3_Out, .bool x3_Over, .int .i64 x3_Bring_State, .str x3_Bring_From, .sl 1 x3_Bring_To_r, .sl 1 x3_Bring_Data_r, .int .i64 x3_Fetch_State, .str x3_Fetch_User, .sl 3 x3_Fetch_Mails_r, .sl 1 x3_Fetch_Gone_r, .int .i64 x3_Look_State, .str x3_Look_User, .str x3_Look_Box, .int .i64 x3_Look_Valid, .sl 1 x3_Look_Uids_r], .agg [.int .i64 x3_Kind, .str x3_In, .str x3_Out, .bool x3_Over, .int .i64 x3_Bring_State, .str x3_Bring_From, .sl 1 x3_Bring_To_r, .sl 1 x3_Bring_Data_r, .int .i64 x3_Fetch_State, .str x3_Fetch_User, .sl 3 x3_Fetch_Mails_r, .sl 1 x3_Fetch_Gone_r, .int .i64 x3_Look_State, .str x3_Look_User, .str x3_Look_Box, .int .i64 x3_Look_Valid, .sl 1 x3_Look_Uids_r]] (.bool true) := by subst hx3_Bring_To_r hx3_Bring_Data_r hx3_Fetch_Mails_r hx3_Fetch_Gone_r hx3_Look_Uids_r; exact r_laws_eqSession A hA (⟨x3_Kind, x3_In, x3_Out, x3_Over, ⟨x3_Bring_State, x3_Bring_From, x3_Bring_To, x3_Bring_Data⟩, ⟨x3_Fetch_State, x3_Fetch_User, x3_Fetch_Mails, x3_Fetch_Gone⟩, ⟨x3_Look_State, x3_Look_User, x3_Look_Box, x3_Look_Valid, x3_Look_Uids⟩⟩ : GSession) hkx
      refine dops_callV rfl rfl (by cbv) (by cbv) hc5 (.inr rfl) ?_
      refine run_dops hA 1 _ _ _ _ (by cbv) ?_
      refine dops_done ?_
      refine go_cond rfl (fun c6 => ?_) (fun c6 => ?_)
      · skip
        exact absurd (show (A.bnot true) = true from c6) (by rw [show (A.bnot true) = false from by subst hA; rfl]; decide)
      · skip
        refine go_skip ?_
        refine go_reg ?_
        refine run_aops hA 3 _ _ _ _ (by cbv) ?_
        refine ops_done ?_
        refine ⟨(S24_1 xs_r (A.num .add .i64 n5 1)), List.length xs - (i + 1), ?_, by cbv, i + 1, (A.num .add .i64 n5 1), rfl, ?_, rfl⟩
        · skip
          omega
        · skip
          exact ⟨by rw [add_i64 hA (by omega) (by omega)]; omega, by omega⟩
    · skip
      have ec2 : (A.rlen xs_r) ≤ n5 := lss_f hA c2
      refine go_exit ⟨fun _ => ?_, fun h => absurd rfl h⟩
      refine go_seq ?_
      refine go_reg ?_
      refine run_aops hA 1 _ _ _ _ (by cbv) ?_
      refine ops_done ?_
      refine go_ret ⟨_, by cbv, ?_⟩
      show _ = (PV.bool true)
      rfl

theorem r_laws_eqServer (A : Alg) (hA : A = std) (x : GServer) (hk : ∀ k ∈ zsServer x, (k : Int) ≤ 4611686018427387904) : Real Try.prog 69 [.agg (eServer x), .agg (eServer x)] (.bool true) := by
  obtain ⟨⟨⟨⟨x_Store_Log_Disk_Sectors, x_Store_Log_Disk_Cache⟩, x_Store_Log_Segs, x_Store_Log_Used, x_Store_Log_NextGen, x_Store_Log_NextSeq, x_Store_Log_Stamp, x_Store_Log_NextValid⟩, x_Store_Freed⟩, x_Sessions⟩ := x
  obtain ⟨x_Store_Log_Disk_Sectors_r, hx_Store_Log_Disk_Sectors_r⟩ : ∃ r, r = x_Store_Log_Disk_Sectors.map eString := ⟨_, rfl⟩
  have lx_Store_Log_Disk_Sectors_r : A.rlen x_Store_Log_Disk_Sectors_r = (List.length x_Store_Log_Disk_Sectors : Int) := rlen_map hA hx_Store_Log_Disk_Sectors_r
  obtain ⟨x_Store_Log_Disk_Cache_r, hx_Store_Log_Disk_Cache_r⟩ : ∃ r, r = x_Store_Log_Disk_Cache.map eWrite := ⟨_, rfl⟩
  have lx_Store_Log_Disk_Cache_r : A.rlen x_Store_Log_Disk_Cache_r = (List.length x_Store_Log_Disk_Cache : Int) := rlen_map hA hx_Store_Log_Disk_Cache_r
  obtain ⟨x_Store_Log_Used_r, hx_Store_Log_Used_r⟩ : ∃ r, r = x_Store_Log_Used.map eSeg := ⟨_, rfl⟩
  have lx_Store_Log_Used_r : A.rlen x_Store_Log_Used_r = (List.length x_Store_Log_Used : Int) := rlen_map hA hx_Store_Log_Used_r
  obtain ⟨x_Store_Freed_r, hx_Store_Freed_r⟩ : ∃ r, r = x_Store_Freed.map eInt := ⟨_, rfl⟩
  have lx_Store_Freed_r : A.rlen x_Store_Freed_r = (List.length x_Store_Freed : Int) := rlen_map hA hx_Store_Freed_r
  obtain ⟨x_Sessions_r, hx_Sessions_r⟩ : ∃ r, r = x_Sessions.map eSession := ⟨_, rfl⟩
  have lx_Sessions_r : A.rlen x_Sessions_r = (List.length x_Sessions : Int) := rlen_map hA hx_Sessions_r
  refine real_args (args' := [.agg [.sl 1 x_Store_Log_Disk_Sectors_r, .sl 2 x_Store_Log_Disk_Cache_r, .int .i64 x_Store_Log_Segs, .sl 4 x_Store_Log_Used_r, .int .i64 x_Store_Log_NextGen, .int .i64 x_Store_Log_NextSeq, .int .i64 x_Store_Log_Stamp, .int .i64 x_Store_Log_NextValid, .sl 1 x_Store_Freed_r, .sl 17 x_Sessions_r], .agg [.sl 1 x_Store_Log_Disk_Sectors_r, .sl 2 x_Store_Log_Disk_Cache_r, .int .i64 x_Store_Log_Segs, .sl 4 x_Store_Log_Used_r, .int .i64 x_Store_Log_NextGen, .int .i64 x_Store_Log_NextSeq, .int .i64 x_Store_Log_Stamp, .int .i64 x_Store_Log_NextValid, .sl 1 x_Store_Freed_r, .sl 17 x_Sessions_r]]) (by subst hx_Store_Log_Disk_Sectors_r hx_Store_Log_Disk_Cache_r hx_Store_Log_Used_r hx_Store_Freed_r hx_Sessions_r; rfl) ?_
  refine real tyOk Try.func69 (by kernel_rfl) (afun_of rfl ?_)
  refine go_seq ?_
  refine go_reg ?_
  refine run_aops hA 3 _ _ _ _ (by cbv) ?_
  refine ops_done ?_
  refine go_seq ?_
  refine go_seq ?_
  refine go_reg ?_
  refine run_aops hA 4 _ _ _ _ (by cbv) ?_
  have hc2 : Real Try.prog 105 [.agg [.sl 1 x_Store_Log_Disk_Sectors_r, .sl 2 x_Store_Log_Disk_Cache_r, .int .i64 x_Store_Log_Segs, .sl 4 x_Store_Log_Used_r, .int .i64 x_Store_Log_NextGen, .int .i64 x_Store_Log_NextSeq, .int .i64 x_Store_Log_Stamp, .int .i64 x_Store_Log_NextValid, .sl 1 x_Store_Freed_r], .agg [.sl 1 x_Store_Log_Disk_Sectors_r, .sl 2 x_Store_Log_Disk_Cache_r, .int .i64 x_Store_Log_Segs, .sl 4 x_Store_Log_Used_r, .int .i64 x_Store_Log_NextGen, .int .i64 x_Store_Log_NextSeq, .int .i64 x_Store_Log_Stamp, .int .i64 x_Store_Log_NextValid, .sl 1 x_Store_Freed_r]] (.bool true) := by subst hx_Store_Log_Disk_Sectors_r hx_Store_Log_Disk_Cache_r hx_Store_Log_Used_r hx_Store_Freed_r; exact r_laws_eqStore A hA (⟨⟨⟨x_Store_Log_Disk_Sectors, x_Store_Log_Disk_Cache⟩, x_Store_Log_Segs, x_Store_Log_Used, x_Store_Log_NextGen, x_Store_Log_NextSeq, x_Store_Log_Stamp, x_Store_Log_NextValid⟩, x_Store_Freed⟩ : GStore) (fun k h => hk k (by simp only [zsServer, List.mem_append]; simp only [h, true_or, or_true]))
  refine ops_callV rfl rfl (by cbv) (by cbv) hc2 (.inr rfl) (by cbv) ?_
  refine run_aops hA 1 _ _ _ _ (by cbv) ?_
  refine ops_done ?_
  refine go_cond rfl (fun c3 => ?_) (fun c3 => ?_)
  · skip
    exact absurd (show (A.bnot true) = true from c3) (by rw [show (A.bnot true) = false from by subst hA; rfl]; decide)
  · skip
    refine go_skip ?_
    refine go_seq ?_
    refine go_seq ?_
    refine go_reg ?_
    refine run_aops hA 4 _ _ _ _ (by cbv) ?_
    have hc5 : Real Try.prog 24 [.sl 17 x_Sessions_r, .sl 17 x_Sessions_r] (.bool true) := by subst hx_Sessions_r; exact r_laws_eqSessionS A hA x_Sessions (fun k h => hk k (by simp only [zsServer, List.mem_append]; simp only [h, true_or, or_true]))
    refine ops_callV rfl rfl (by cbv) (by cbv) hc5 (.inr rfl) (by cbv) ?_
    refine run_aops hA 1 _ _ _ _ (by cbv) ?_
    refine ops_done ?_
    refine go_cond rfl (fun c6 => ?_) (fun c6 => ?_)
    · skip
      exact absurd (show (A.bnot true) = true from c6) (by rw [show (A.bnot true) = false from by subst hA; rfl]; decide)
    · skip
      refine go_skip ?_
      refine go_seq ?_
      refine go_reg ?_
      refine run_aops hA 1 _ _ _ _ (by cbv) ?_
      refine ops_done ?_
      refine go_ret ⟨_, by cbv, ?_⟩
      show _ = (PV.bool true)
      rfl

theorem r_laws_eqWorld (A : Alg) (hA : A = std) (x : GWorld) (hk : ∀ k ∈ zsWorld x, (k : Int) ≤ 4611686018427387904) : Real Try.prog 29 [.agg (eWorld x), .agg (eWorld x)] (.bool true) := by
  obtain ⟨⟨⟨⟨⟨x_Server_Store_Log_Disk_Sectors, x_Server_Store_Log_Disk_Cache⟩, x_Server_Store_Log_Segs, x_Server_Store_Log_Used, x_Server_Store_Log_NextGen, x_Server_Store_Log_NextSeq, x_Server_Store_Log_Stamp, x_Server_Store_Log_NextValid⟩, x_Server_Store_Freed⟩, x_Server_Sessions⟩, x_Codes⟩ := x
  obtain ⟨x_Server_Store_Log_Disk_Sectors_r, hx_Server_Store_Log_Disk_Sectors_r⟩ : ∃ r, r = x_Server_Store_Log_Disk_Sectors.map eString := ⟨_, rfl⟩
  have lx_Server_Store_Log_Disk_Sectors_r : A.rlen x_Server_Store_Log_Disk_Sectors_r = (List.length x_Server_Store_Log_Disk_Sectors : Int) := rlen_map hA hx_Server_Store_Log_Disk_Sectors_r
  obtain ⟨x_Server_Store_Log_Disk_Cache_r, hx_Server_Store_Log_Disk_Cache_r⟩ : ∃ r, r = x_Server_Store_Log_Disk_Cache.map eWrite := ⟨_, rfl⟩
  have lx_Server_Store_Log_Disk_Cache_r : A.rlen x_Server_Store_Log_Disk_Cache_r = (List.length x_Server_Store_Log_Disk_Cache : Int) := rlen_map hA hx_Server_Store_Log_Disk_Cache_r
  obtain ⟨x_Server_Store_Log_Used_r, hx_Server_Store_Log_Used_r⟩ : ∃ r, r = x_Server_Store_Log_Used.map eSeg := ⟨_, rfl⟩
  have lx_Server_Store_Log_Used_r : A.rlen x_Server_Store_Log_Used_r = (List.length x_Server_Store_Log_Used : Int) := rlen_map hA hx_Server_Store_Log_Used_r
  obtain ⟨x_Server_Store_Freed_r, hx_Server_Store_Freed_r⟩ : ∃ r, r = x_Server_Store_Freed.map eInt := ⟨_, rfl⟩
  have lx_Server_Store_Freed_r : A.rlen x_Server_Store_Freed_r = (List.length x_Server_Store_Freed : Int) := rlen_map hA hx_Server_Store_Freed_r
  obtain ⟨x_Server_Sessions_r, hx_Server_Sessions_r⟩ : ∃ r, r = x_Server_Sessions.map eSession := ⟨_, rfl⟩
  have lx_Server_Sessions_r : A.rlen x_Server_Sessions_r = (List.length x_Server_Sessions : Int) := rlen_map hA hx_Server_Sessions_r
  obtain ⟨x_Codes_r, hx_Codes_r⟩ : ∃ r, r = x_Codes.map eInt := ⟨_, rfl⟩
  have lx_Codes_r : A.rlen x_Codes_r = (List.length x_Codes : Int) := rlen_map hA hx_Codes_r
  refine real_args (args' := [.agg [.sl 1 x_Server_Store_Log_Disk_Sectors_r, .sl 2 x_Server_Store_Log_Disk_Cache_r, .int .i64 x_Server_Store_Log_Segs, .sl 4 x_Server_Store_Log_Used_r, .int .i64 x_Server_Store_Log_NextGen, .int .i64 x_Server_Store_Log_NextSeq, .int .i64 x_Server_Store_Log_Stamp, .int .i64 x_Server_Store_Log_NextValid, .sl 1 x_Server_Store_Freed_r, .sl 17 x_Server_Sessions_r, .sl 1 x_Codes_r], .agg [.sl 1 x_Server_Store_Log_Disk_Sectors_r, .sl 2 x_Server_Store_Log_Disk_Cache_r, .int .i64 x_Server_Store_Log_Segs, .sl 4 x_Server_Store_Log_Used_r, .int .i64 x_Server_Store_Log_NextGen, .int .i64 x_Server_Store_Log_NextSeq, .int .i64 x_Server_Store_Log_Stamp, .int .i64 x_Server_Store_Log_NextValid, .sl 1 x_Server_Store_Freed_r, .sl 17 x_Server_Sessions_r, .sl 1 x_Codes_r]]) (by subst hx_Server_Store_Log_Disk_Sectors_r hx_Server_Store_Log_Disk_Cache_r hx_Server_Store_Log_Used_r hx_Server_Store_Freed_r hx_Server_Sessions_r hx_Codes_r; rfl) ?_
  refine real tyOk Try.func29 (by kernel_rfl) (afun_of rfl ?_)
  refine go_seq ?_
  refine go_reg ?_
  refine run_aops hA 3 _ _ _ _ (by cbv) ?_
  refine ops_done ?_
  refine go_seq ?_
  refine go_seq ?_
  refine go_reg ?_
  refine run_aops hA 4 _ _ _ _ (by cbv) ?_
  have hc2 : Real Try.prog 69 [.agg [.sl 1 x_Server_Store_Log_Disk_Sectors_r, .sl 2 x_Server_Store_Log_Disk_Cache_r, .int .i64 x_Server_Store_Log_Segs, .sl 4 x_Server_Store_Log_Used_r, .int .i64 x_Server_Store_Log_NextGen, .int .i64 x_Server_Store_Log_NextSeq, .int .i64 x_Server_Store_Log_Stamp, .int .i64 x_Server_Store_Log_NextValid, .sl 1 x_Server_Store_Freed_r, .sl 17 x_Server_Sessions_r], .agg [.sl 1 x_Server_Store_Log_Disk_Sectors_r, .sl 2 x_Server_Store_Log_Disk_Cache_r, .int .i64 x_Server_Store_Log_Segs, .sl 4 x_Server_Store_Log_Used_r, .int .i64 x_Server_Store_Log_NextGen, .int .i64 x_Server_Store_Log_NextSeq, .int .i64 x_Server_Store_Log_Stamp, .int .i64 x_Server_Store_Log_NextValid, .sl 1 x_Server_Store_Freed_r, .sl 17 x_Server_Sessions_r]] (.bool true) := by subst hx_Server_Store_Log_Disk_Sectors_r hx_Server_Store_Log_Disk_Cache_r hx_Server_Store_Log_Used_r hx_Server_Store_Freed_r hx_Server_Sessions_r; exact r_laws_eqServer A hA (⟨⟨⟨⟨x_Server_Store_Log_Disk_Sectors, x_Server_Store_Log_Disk_Cache⟩, x_Server_Store_Log_Segs, x_Server_Store_Log_Used, x_Server_Store_Log_NextGen, x_Server_Store_Log_NextSeq, x_Server_Store_Log_Stamp, x_Server_Store_Log_NextValid⟩, x_Server_Store_Freed⟩, x_Server_Sessions⟩ : GServer) (fun k h => hk k (by simp only [zsWorld, List.mem_append]; simp only [h, true_or, or_true]))
  refine ops_callV rfl rfl (by cbv) (by cbv) hc2 (.inr rfl) (by cbv) ?_
  refine run_aops hA 1 _ _ _ _ (by cbv) ?_
  refine ops_done ?_
  refine go_cond rfl (fun c3 => ?_) (fun c3 => ?_)
  · skip
    exact absurd (show (A.bnot true) = true from c3) (by rw [show (A.bnot true) = false from by subst hA; rfl]; decide)
  · skip
    refine go_skip ?_
    refine go_seq ?_
    refine go_seq ?_
    refine go_reg ?_
    refine run_aops hA 4 _ _ _ _ (by cbv) ?_
    have hc5 : Real Try.prog 70 [.sl 1 x_Codes_r, .sl 1 x_Codes_r] (.bool true) := by subst hx_Codes_r; exact r_laws_eqIntS A hA x_Codes (fun k h => hk k (by simp only [zsWorld, List.mem_append]; simp only [h, true_or, or_true]))
    refine ops_callV rfl rfl (by cbv) (by cbv) hc5 (.inr rfl) (by cbv) ?_
    refine run_aops hA 1 _ _ _ _ (by cbv) ?_
    refine ops_done ?_
    refine go_cond rfl (fun c6 => ?_) (fun c6 => ?_)
    · skip
      exact absurd (show (A.bnot true) = true from c6) (by rw [show (A.bnot true) = false from by subst hA; rfl]; decide)
    · skip
      refine go_skip ?_
      refine go_seq ?_
      refine go_reg ?_
      refine run_aops hA 1 _ _ _ _ (by cbv) ?_
      refine ops_done ?_
      refine go_ret ⟨_, by cbv, ?_⟩
      show _ = (PV.bool true)
      rfl
end Go.Av

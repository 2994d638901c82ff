/- Walks: the law of SessionsRight. -/
import Derived.Test.YtjbokkoiicoahaaR4
import Derived.Test.YtjbokkoiicoahaaR5
import Derived.Test.YtjbokkoiicoahaaR6
import Derived.Test.YtjbokkoiicoahaaR7
namespace Go.Av
open Go Go.Proofs
set_option maxRecDepth 100000
set_option maxHeartbeats 4000000
set_option linter.unusedVariables false
set_option linter.unusedSimpArgs false
theorem r_laws_FnExactSessionsRight (A : Alg) (hA : A = std) (aW : GWorld) (haW : ∀ k ∈ zsWorld aW, (k : Int) ≤ 9223372036854775807) : Real Try.prog 6 [.agg (eWorld aW)] (.bool true) := by
  obtain ⟨⟨⟨⟨⟨aW_Server_Store_Log_Disk_Sectors, aW_Server_Store_Log_Disk_Cache⟩, aW_Server_Store_Log_Segs, aW_Server_Store_Log_Used, aW_Server_Store_Log_NextGen, aW_Server_Store_Log_NextSeq, aW_Server_Store_Log_Stamp, aW_Server_Store_Log_NextValid⟩, aW_Server_Store_Freed⟩, aW_Server_Sessions⟩, aW_Codes⟩ := aW
  obtain ⟨aW_Server_Store_Log_Disk_Sectors_r, haW_Server_Store_Log_Disk_Sectors_r⟩ : ∃ r, r = aW_Server_Store_Log_Disk_Sectors.map eString := ⟨_, rfl⟩
  have laW_Server_Store_Log_Disk_Sectors_r : A.rlen aW_Server_Store_Log_Disk_Sectors_r = (List.length aW_Server_Store_Log_Disk_Sectors : Int) := rlen_map hA haW_Server_Store_Log_Disk_Sectors_r
  obtain ⟨aW_Server_Store_Log_Disk_Cache_r, haW_Server_Store_Log_Disk_Cache_r⟩ : ∃ r, r = aW_Server_Store_Log_Disk_Cache.map eWrite := ⟨_, rfl⟩
  have laW_Server_Store_Log_Disk_Cache_r : A.rlen aW_Server_Store_Log_Disk_Cache_r = (List.length aW_Server_Store_Log_Disk_Cache : Int) := rlen_map hA haW_Server_Store_Log_Disk_Cache_r
  obtain ⟨aW_Server_Store_Log_Used_r, haW_Server_Store_Log_Used_r⟩ : ∃ r, r = aW_Server_Store_Log_Used.map eSeg := ⟨_, rfl⟩
  have laW_Server_Store_Log_Used_r : A.rlen aW_Server_Store_Log_Used_r = (List.length aW_Server_Store_Log_Used : Int) := rlen_map hA haW_Server_Store_Log_Used_r
  obtain ⟨aW_Server_Store_Freed_r, haW_Server_Store_Freed_r⟩ : ∃ r, r = aW_Server_Store_Freed.map eInt := ⟨_, rfl⟩
  have laW_Server_Store_Freed_r : A.rlen aW_Server_Store_Freed_r = (List.length aW_Server_Store_Freed : Int) := rlen_map hA haW_Server_Store_Freed_r
  obtain ⟨aW_Server_Sessions_r, haW_Server_Sessions_r⟩ : ∃ r, r = aW_Server_Sessions.map eSession := ⟨_, rfl⟩
  have laW_Server_Sessions_r : A.rlen aW_Server_Sessions_r = (List.length aW_Server_Sessions : Int) := rlen_map hA haW_Server_Sessions_r
  obtain ⟨aW_Codes_r, haW_Codes_r⟩ : ∃ r, r = aW_Codes.map eInt := ⟨_, rfl⟩
  have laW_Codes_r : A.rlen aW_Codes_r = (List.length aW_Codes : Int) := rlen_map hA haW_Codes_r
  refine real_args (args' := [.agg [.sl 1 aW_Server_Store_Log_Disk_Sectors_r, .sl 2 aW_Server_Store_Log_Disk_Cache_r, .int .i64 aW_Server_Store_Log_Segs, .sl 4 aW_Server_Store_Log_Used_r, .int .i64 aW_Server_Store_Log_NextGen, .int .i64 aW_Server_Store_Log_NextSeq, .int .i64 aW_Server_Store_Log_Stamp, .int .i64 aW_Server_Store_Log_NextValid, .sl 1 aW_Server_Store_Freed_r, .sl 17 aW_Server_Sessions_r, .sl 1 aW_Codes_r]]) (by subst haW_Server_Store_Log_Disk_Sectors_r haW_Server_Store_Log_Disk_Cache_r haW_Server_Store_Log_Used_r haW_Server_Store_Freed_r haW_Server_Sessions_r haW_Codes_r; rfl) ?_
  refine real tyOk Try.func6 (by kernel_rfl) (afun_of rfl ?_)
  refine go_seq ?_
  refine go_reg ?_
  refine run_aops hA 2 _ _ _ _ (by cbv) ?_
  refine ops_done ?_
  refine go_seq ?_
  refine go_reg ?_
  refine run_aops hA 1 _ _ _ _ (by cbv) ?_
  refine ops_done ?_
  refine go_seq ?_
  refine go_reg ?_
  refine run_aops hA 2 _ _ _ _ (by cbv) ?_
  obtain ⟨v9_1, hv9_1, hc2⟩ : ∃ (v9_1 : Int), v9_1 = (chain 1048576 (zsWorld (⟨⟨⟨⟨⟨aW_Server_Store_Log_Disk_Sectors, aW_Server_Store_Log_Disk_Cache⟩, aW_Server_Store_Log_Segs, aW_Server_Store_Log_Used, aW_Server_Store_Log_NextGen, aW_Server_Store_Log_NextSeq, aW_Server_Store_Log_Stamp, aW_Server_Store_Log_NextValid⟩, aW_Server_Store_Freed⟩, aW_Server_Sessions⟩, aW_Codes⟩ : GWorld))) ∧ Real Try.prog 25 [.agg [.sl 1 aW_Server_Store_Log_Disk_Sectors_r, .sl 2 aW_Server_Store_Log_Disk_Cache_r, .int .i64 aW_Server_Store_Log_Segs, .sl 4 aW_Server_Store_Log_Used_r, .int .i64 aW_Server_Store_Log_NextGen, .int .i64 aW_Server_Store_Log_NextSeq, .int .i64 aW_Server_Store_Log_Stamp, .int .i64 aW_Server_Store_Log_NextValid, .sl 1 aW_Server_Store_Freed_r, .sl 17 aW_Server_Sessions_r, .sl 1 aW_Codes_r], .int .i64 1048576] (.int .i64 v9_1) := ⟨_, rfl, by subst haW_Server_Store_Log_Disk_Sectors_r haW_Server_Store_Log_Disk_Cache_r haW_Server_Store_Log_Used_r haW_Server_Store_Freed_r haW_Server_Sessions_r haW_Codes_r; exact r_laws_szWorld A hA (⟨⟨⟨⟨⟨aW_Server_Store_Log_Disk_Sectors, aW_Server_Store_Log_Disk_Cache⟩, aW_Server_Store_Log_Segs, aW_Server_Store_Log_Used, aW_Server_Store_Log_NextGen, aW_Server_Store_Log_NextSeq, aW_Server_Store_Log_Stamp, aW_Server_Store_Log_NextValid⟩, aW_Server_Store_Freed⟩, aW_Server_Sessions⟩, aW_Codes⟩ : GWorld) 1048576 (by omega) (by omega) haW⟩
  refine ops_callV rfl rfl (by cbv) (by cbv) hc2 (.inr rfl) (by cbv) ?_
  have bv9_1 := chain_bd hv9_1 (by omega)
  refine run_aops hA 1 _ _ _ _ (by cbv) ?_
  refine ops_done ?_
  refine go_seq ?_
  refine go_seq ?_
  refine go_reg ?_
  refine run_aops hA 2 _ _ _ _ (by cbv) ?_
  refine ops_done ?_
  refine go_cond rfl (fun c3 => ?_) (fun c3 => ?_)
  · skip
    have ec3 : v9_1 < 0 := lss_t hA c3
    refine go_seq ?_
    refine go_reg ?_
    refine run_aops hA 1 _ _ _ _ (by cbv) ?_
    refine ops_done ?_
    refine go_ret ⟨_, by cbv, ?_⟩
    show _ = (PV.bool true)
    rfl
  · skip
    have ec3 : 0 ≤ v9_1 := lss_f hA c3
    refine go_skip ?_
    refine go_seq ?_
    have jaW : ∀ k ∈ zsWorld (⟨⟨⟨⟨⟨aW_Server_Store_Log_Disk_Sectors, aW_Server_Store_Log_Disk_Cache⟩, aW_Server_Store_Log_Segs, aW_Server_Store_Log_Used, aW_Server_Store_Log_NextGen, aW_Server_Store_Log_NextSeq, aW_Server_Store_Log_Stamp, aW_Server_Store_Log_NextValid⟩, aW_Server_Store_Freed⟩, aW_Server_Sessions⟩, aW_Codes⟩ : GWorld), k ≤ 1048576 := fun k hk => by
      have := chain_all _ _ (show 0 ≤ chain _ _ from hv9_1 ▸ (by omega : (0 : Int) ≤ v9_1)) k hk
      omega
    have iaW : ∀ k ∈ zsWorld (⟨⟨⟨⟨⟨aW_Server_Store_Log_Disk_Sectors, aW_Server_Store_Log_Disk_Cache⟩, aW_Server_Store_Log_Segs, aW_Server_Store_Log_Used, aW_Server_Store_Log_NextGen, aW_Server_Store_Log_NextSeq, aW_Server_Store_Log_Stamp, aW_Server_Store_Log_NextValid⟩, aW_Server_Store_Freed⟩, aW_Server_Sessions⟩, aW_Codes⟩ : GWorld), (k : Int) ≤ 4611686018427387904 := fun k hk => by have := jaW k hk; omega
    refine go_reg ?_
    refine run_aops hA 1 _ _ _ _ (by cbv) ?_
    obtain ⟨v13_4_Server_Store_Log_Disk_Sectors, v13_4_Server_Store_Log_Disk_Cache, v13_4_Server_Store_Log_Used, v13_4_Server_Store_Freed, v13_4_Server_Sessions, v13_4_Codes, hv13_4_Server_Store_Log_Disk_Sectors, hv13_4_Server_Store_Log_Disk_Cache, hv13_4_Server_Store_Log_Used, hv13_4_Server_Store_Freed, hv13_4_Server_Sessions, hv13_4_Codes, hc5⟩ : ∃ (v13_4_Server_Store_Log_Disk_Sectors : List (List PV)) (v13_4_Server_Store_Log_Disk_Cache : List (List PV)) (v13_4_Server_Store_Log_Used : List (List PV)) (v13_4_Server_Store_Freed : List (List PV)) (v13_4_Server_Sessions : List (List PV)) (v13_4_Codes : List (List PV)), v13_4_Server_Store_Log_Disk_Sectors = List.map eString aW_Server_Store_Log_Disk_Sectors ∧ v13_4_Server_Store_Log_Disk_Cache = List.map eoWrite aW_Server_Store_Log_Disk_Cache ∧ v13_4_Server_Store_Log_Used = List.map eoSeg aW_Server_Store_Log_Used ∧ v13_4_Server_Store_Freed = List.map eInt aW_Server_Store_Freed ∧ v13_4_Server_Sessions = List.map eoSession aW_Server_Sessions ∧ v13_4_Codes = List.map eInt aW_Codes ∧ Real Try.prog 27 [.agg [.sl 1 aW_Server_Store_Log_Disk_Sectors_r, .sl 2 aW_Server_Store_Log_Disk_Cache_r, .int .i64 aW_Server_Store_Log_Segs, .sl 4 aW_Server_Store_Log_Used_r, .int .i64 aW_Server_Store_Log_NextGen, .int .i64 aW_Server_Store_Log_NextSeq, .int .i64 aW_Server_Store_Log_Stamp, .int .i64 aW_Server_Store_Log_NextValid, .sl 1 aW_Server_Store_Freed_r, .sl 17 aW_Server_Sessions_r, .sl 1 aW_Codes_r]] (.agg [.ow 1 v13_4_Server_Store_Log_Disk_Sectors, .ow 2 v13_4_Server_Store_Log_Disk_Cache, .int .i64 aW_Server_Store_Log_Segs, .ow 4 v13_4_Server_Store_Log_Used, .int .i64 aW_Server_Store_Log_NextGen, .int .i64 aW_Server_Store_Log_NextSeq, .int .i64 aW_Server_Store_Log_Stamp, .int .i64 aW_Server_Store_Log_NextValid, .ow 1 v13_4_Server_Store_Freed, .ow 17 v13_4_Server_Sessions, .ow 1 v13_4_Codes]) := ⟨_, _, _, _, _, _, rfl, rfl, rfl, rfl, rfl, rfl, by subst haW_Server_Store_Log_Disk_Sectors_r haW_Server_Store_Log_Disk_Cache_r haW_Server_Store_Log_Used_r haW_Server_Store_Freed_r haW_Server_Sessions_r haW_Codes_r; exact r_laws_toWorld A hA (⟨⟨⟨⟨⟨aW_Server_Store_Log_Disk_Sectors, aW_Server_Store_Log_Disk_Cache⟩, aW_Server_Store_Log_Segs, aW_Server_Store_Log_Used, aW_Server_Store_Log_NextGen, aW_Server_Store_Log_NextSeq, aW_Server_Store_Log_Stamp, aW_Server_Store_Log_NextValid⟩, aW_Server_Store_Freed⟩, aW_Server_Sessions⟩, aW_Codes⟩ : GWorld) jaW⟩
    have lv13_4_Server_Store_Log_Disk_Sectors : A.rlen v13_4_Server_Store_Log_Disk_Sectors = (List.length aW_Server_Store_Log_Disk_Sectors : Int) := rlen_map hA hv13_4_Server_Store_Log_Disk_Sectors
    have lv13_4_Server_Store_Log_Disk_Cache : A.rlen v13_4_Server_Store_Log_Disk_Cache = (List.length aW_Server_Store_Log_Disk_Cache : Int) := rlen_map hA hv13_4_Server_Store_Log_Disk_Cache
    have lv13_4_Server_Store_Log_Used : A.rlen v13_4_Server_Store_Log_Used = (List.length aW_Server_Store_Log_Used : Int) := rlen_map hA hv13_4_Server_Store_Log_Used
    have lv13_4_Server_Store_Freed : A.rlen v13_4_Server_Store_Freed = (List.length aW_Server_Store_Freed : Int) := rlen_map hA hv13_4_Server_Store_Freed
    have lv13_4_Server_Sessions : A.rlen v13_4_Server_Sessions = (List.length aW_Server_Sessions : Int) := rlen_map hA hv13_4_Server_Sessions
    have lv13_4_Codes : A.rlen v13_4_Codes = (List.length aW_Codes : Int) := rlen_map hA hv13_4_Codes
    refine ops_callV rfl rfl (by cbv) (by cbv) hc5 (.inr rfl) (by cbv) ?_
    obtain ⟨v14_6, hv14_6, hc7⟩ : ∃ (v14_6 : Bool), v14_6 = (sesRight (⟨⟨⟨⟨⟨aW_Server_Store_Log_Disk_Sectors, aW_Server_Store_Log_Disk_Cache⟩, aW_Server_Store_Log_Segs, aW_Server_Store_Log_Used, aW_Server_Store_Log_NextGen, aW_Server_Store_Log_NextSeq, aW_Server_Store_Log_Stamp, aW_Server_Store_Log_NextValid⟩, aW_Server_Store_Freed⟩, aW_Server_Sessions⟩, aW_Codes⟩ : GWorld)) ∧ Real Try.prog 26 [.agg [.sl 1 (eraseR v13_4_Server_Store_Log_Disk_Sectors), .sl 2 (eraseR v13_4_Server_Store_Log_Disk_Cache), .int .i64 aW_Server_Store_Log_Segs, .sl 4 (eraseR v13_4_Server_Store_Log_Used), .int .i64 aW_Server_Store_Log_NextGen, .int .i64 aW_Server_Store_Log_NextSeq, .int .i64 aW_Server_Store_Log_Stamp, .int .i64 aW_Server_Store_Log_NextValid, .sl 1 (eraseR v13_4_Server_Store_Freed), .sl 17 (eraseR v13_4_Server_Sessions), .sl 1 (eraseR v13_4_Codes)]] (.bool v14_6) := ⟨_, rfl, by subst hv13_4_Server_Store_Log_Disk_Sectors hv13_4_Server_Store_Log_Disk_Cache hv13_4_Server_Store_Log_Used hv13_4_Server_Store_Freed hv13_4_Server_Sessions hv13_4_Codes; simp only [erR_Int, erR_Seg, erR_Session, erR_String, erR_Write]; exact r_spec_SessionsRight A hA (⟨⟨⟨⟨⟨aW_Server_Store_Log_Disk_Sectors, aW_Server_Store_Log_Disk_Cache⟩, aW_Server_Store_Log_Segs, aW_Server_Store_Log_Used, aW_Server_Store_Log_NextGen, aW_Server_Store_Log_NextSeq, aW_Server_Store_Log_Stamp, aW_Server_Store_Log_NextValid⟩, aW_Server_Store_Freed⟩, aW_Server_Sessions⟩, aW_Codes⟩ : GWorld) iaW⟩
    refine ops_callV rfl rfl (by cbv) (by cbv) hc7 (.inl trivial) (by cbv) ?_
    refine run_aops hA 1 _ _ _ _ (by cbv) ?_
    refine ops_done ?_
    refine go_seq ?_
    refine go_reg ?_
    refine run_aops hA 1 _ _ _ _ (by cbv) ?_
    obtain ⟨v16_8_Server_Store_Log_Disk_Sectors, v16_8_Server_Store_Log_Disk_Cache, v16_8_Server_Store_Log_Used, v16_8_Server_Store_Freed, v16_8_Server_Sessions, v16_8_Codes, hv16_8_Server_Store_Log_Disk_Sectors, hv16_8_Server_Store_Log_Disk_Cache, hv16_8_Server_Store_Log_Used, hv16_8_Server_Store_Freed, hv16_8_Server_Sessions, hv16_8_Codes, hc9⟩ : ∃ (v16_8_Server_Store_Log_Disk_Sectors : List (List PV)) (v16_8_Server_Store_Log_Disk_Cache : List (List PV)) (v16_8_Server_Store_Log_Used : List (List PV)) (v16_8_Server_Store_Freed : List (List PV)) (v16_8_Server_Sessions : List (List PV)) (v16_8_Codes : List (List PV)), v16_8_Server_Store_Log_Disk_Sectors = List.map eString aW_Server_Store_Log_Disk_Sectors ∧ v16_8_Server_Store_Log_Disk_Cache = List.map eoWrite aW_Server_Store_Log_Disk_Cache ∧ v16_8_Server_Store_Log_Used = List.map eoSeg aW_Server_Store_Log_Used ∧ v16_8_Server_Store_Freed = List.map eInt aW_Server_Store_Freed ∧ v16_8_Server_Sessions = List.map eoSession aW_Server_Sessions ∧ v16_8_Codes = List.map eInt aW_Codes ∧ Real Try.prog 27 [.agg [.sl 1 aW_Server_Store_Log_Disk_Sectors_r, .sl 2 aW_Server_Store_Log_Disk_Cache_r, .int .i64 aW_Server_Store_Log_Segs, .sl 4 aW_Server_Store_Log_Used_r, .int .i64 aW_Server_Store_Log_NextGen, .int .i64 aW_Server_Store_Log_NextSeq, .int .i64 aW_Server_Store_Log_Stamp, .int .i64 aW_Server_Store_Log_NextValid, .sl 1 aW_Server_Store_Freed_r, .sl 17 aW_Server_Sessions_r, .sl 1 aW_Codes_r]] (.agg [.ow 1 v16_8_Server_Store_Log_Disk_Sectors, .ow 2 v16_8_Server_Store_Log_Disk_Cache, .int .i64 aW_Server_Store_Log_Segs, .ow 4 v16_8_Server_Store_Log_Used, .int .i64 aW_Server_Store_Log_NextGen, .int .i64 aW_Server_Store_Log_NextSeq, .int .i64 aW_Server_Store_Log_Stamp, .int .i64 aW_Server_Store_Log_NextValid, .ow 1 v16_8_Server_Store_Freed, .ow 17 v16_8_Server_Sessions, .ow 1 v16_8_Codes]) := ⟨_, _, _, _, _, _, rfl, rfl, rfl, rfl, rfl, rfl, by subst haW_Server_Store_Log_Disk_Sectors_r haW_Server_Store_Log_Disk_Cache_r haW_Server_Store_Log_Used_r haW_Server_Store_Freed_r haW_Server_Sessions_r haW_Codes_r; exact r_laws_toWorld A hA (⟨⟨⟨⟨⟨aW_Server_Store_Log_Disk_Sectors, aW_Server_Store_Log_Disk_Cache⟩, aW_Server_Store_Log_Segs, aW_Server_Store_Log_Used, aW_Server_Store_Log_NextGen, aW_Server_Store_Log_NextSeq, aW_Server_Store_Log_Stamp, aW_Server_Store_Log_NextValid⟩, aW_Server_Store_Freed⟩, aW_Server_Sessions⟩, aW_Codes⟩ : GWorld) jaW⟩
    have lv16_8_Server_Store_Log_Disk_Sectors : A.rlen v16_8_Server_Store_Log_Disk_Sectors = (List.length aW_Server_Store_Log_Disk_Sectors : Int) := rlen_map hA hv16_8_Server_Store_Log_Disk_Sectors
    have lv16_8_Server_Store_Log_Disk_Cache : A.rlen v16_8_Server_Store_Log_Disk_Cache = (List.length aW_Server_Store_Log_Disk_Cache : Int) := rlen_map hA hv16_8_Server_Store_Log_Disk_Cache
    have lv16_8_Server_Store_Log_Used : A.rlen v16_8_Server_Store_Log_Used = (List.length aW_Server_Store_Log_Used : Int) := rlen_map hA hv16_8_Server_Store_Log_Used
    have lv16_8_Server_Store_Freed : A.rlen v16_8_Server_Store_Freed = (List.length aW_Server_Store_Freed : Int) := rlen_map hA hv16_8_Server_Store_Freed
    have lv16_8_Server_Sessions : A.rlen v16_8_Server_Sessions = (List.length aW_Server_Sessions : Int) := rlen_map hA hv16_8_Server_Sessions
    have lv16_8_Codes : A.rlen v16_8_Codes = (List.length aW_Codes : Int) := rlen_map hA hv16_8_Codes
    refine ops_callV rfl rfl (by cbv) (by cbv) hc9 (.inr rfl) (by cbv) ?_
    refine run_aops hA 2 _ _ _ _ (by cbv) ?_
    refine ops_done ?_
    refine go_seq ?_
    refine go_reg ?_
    refine run_aops hA 1 _ _ _ _ (by cbv) ?_
    obtain ⟨v18_10, hv18_10, hc11⟩ : ∃ (v18_10 : Bool), v18_10 = (sesRight (⟨⟨⟨⟨⟨aW_Server_Store_Log_Disk_Sectors, aW_Server_Store_Log_Disk_Cache⟩, aW_Server_Store_Log_Segs, aW_Server_Store_Log_Used, aW_Server_Store_Log_NextGen, aW_Server_Store_Log_NextSeq, aW_Server_Store_Log_Stamp, aW_Server_Store_Log_NextValid⟩, aW_Server_Store_Freed⟩, aW_Server_Sessions⟩, aW_Codes⟩ : GWorld)) ∧ Real Try.prog 28 [.agg [.sl 1 (eraseR v16_8_Server_Store_Log_Disk_Sectors), .sl 2 (eraseR v16_8_Server_Store_Log_Disk_Cache), .int .i64 aW_Server_Store_Log_Segs, .sl 4 (eraseR v16_8_Server_Store_Log_Used), .int .i64 aW_Server_Store_Log_NextGen, .int .i64 aW_Server_Store_Log_NextSeq, .int .i64 aW_Server_Store_Log_Stamp, .int .i64 aW_Server_Store_Log_NextValid, .sl 1 (eraseR v16_8_Server_Store_Freed), .sl 17 (eraseR v16_8_Server_Sessions), .sl 1 (eraseR v16_8_Codes)]] (.bool v18_10) := ⟨_, rfl, by subst hv16_8_Server_Store_Log_Disk_Sectors hv16_8_Server_Store_Log_Disk_Cache hv16_8_Server_Store_Log_Used hv16_8_Server_Store_Freed hv16_8_Server_Sessions hv16_8_Codes; simp only [erR_Int, erR_Seg, erR_Session, erR_String, erR_Write]; exact r_impl_SessionsRight A hA (⟨⟨⟨⟨⟨aW_Server_Store_Log_Disk_Sectors, aW_Server_Store_Log_Disk_Cache⟩, aW_Server_Store_Log_Segs, aW_Server_Store_Log_Used, aW_Server_Store_Log_NextGen, aW_Server_Store_Log_NextSeq, aW_Server_Store_Log_Stamp, aW_Server_Store_Log_NextValid⟩, aW_Server_Store_Freed⟩, aW_Server_Sessions⟩, aW_Codes⟩ : GWorld) iaW⟩
    refine ops_callV rfl rfl (by cbv) (by cbv) hc11 (.inl trivial) (by cbv) ?_
    refine run_aops hA 1 _ _ _ _ (by cbv) ?_
    refine ops_done ?_
    refine go_seq ?_
    refine go_seq ?_
    refine go_reg ?_
    refine run_aops hA 3 _ _ _ _ (by cbv) ?_
    refine ops_done ?_
    refine go_cond rfl (fun c12 => ?_) (fun c12 => ?_)
    · skip
      exact absurd (show (A.bnot (A.beq v18_10 v14_6)) = true from c12) (by rw [show (A.bnot (A.beq v18_10 v14_6)) = false from by subst hA; simp [std, hv18_10, hv14_6]]; decide)
    · skip
      refine go_skip ?_
      refine go_seq ?_
      refine go_seq ?_
      refine go_draw (by cbv) ?_
      refine run_dops hA 2 _ _ _ _ (by cbv) ?_
      obtain ⟨v24_13_Server_Store_Log_Disk_Sectors, v24_13_Server_Store_Log_Disk_Cache, v24_13_Server_Store_Log_Used, v24_13_Server_Store_Freed, v24_13_Server_Sessions, v24_13_Codes, hv24_13_Server_Store_Log_Disk_Sectors, hv24_13_Server_Store_Log_Disk_Cache, hv24_13_Server_Store_Log_Used, hv24_13_Server_Store_Freed, hv24_13_Server_Sessions, hv24_13_Codes, hc14⟩ : ∃ (v24_13_Server_Store_Log_Disk_Sectors : List (List PV)) (v24_13_Server_Store_Log_Disk_Cache : List (List PV)) (v24_13_Server_Store_Log_Used : List (List PV)) (v24_13_Server_Store_Freed : List (List PV)) (v24_13_Server_Sessions : List (List PV)) (v24_13_Codes : List (List PV)), v24_13_Server_Store_Log_Disk_Sectors = List.map eString aW_Server_Store_Log_Disk_Sectors ∧ v24_13_Server_Store_Log_Disk_Cache = List.map eoWrite aW_Server_Store_Log_Disk_Cache ∧ v24_13_Server_Store_Log_Used = List.map eoSeg aW_Server_Store_Log_Used ∧ v24_13_Server_Store_Freed = List.map eInt aW_Server_Store_Freed ∧ v24_13_Server_Sessions = List.map eoSession aW_Server_Sessions ∧ v24_13_Codes = List.map eInt aW_Codes ∧ Real Try.prog 27 [.agg [.sl 1 aW_Server_Store_Log_Disk_Sectors_r, .sl 2 aW_Server_Store_Log_Disk_Cache_r, .int .i64 aW_Server_Store_Log_Segs, .sl 4 aW_Server_Store_Log_Used_r, .int .i64 aW_Server_Store_Log_NextGen, .int .i64 aW_Server_Store_Log_NextSeq, .int .i64 aW_Server_Store_Log_Stamp, .int .i64 aW_Server_Store_Log_NextValid, .sl 1 aW_Server_Store_Freed_r, .sl 17 aW_Server_Sessions_r, .sl 1 aW_Codes_r]] (.agg [.ow 1 v24_13_Server_Store_Log_Disk_Sectors, .ow 2 v24_13_Server_Store_Log_Disk_Cache, .int .i64 aW_Server_Store_Log_Segs, .ow 4 v24_13_Server_Store_Log_Used, .int .i64 aW_Server_Store_Log_NextGen, .int .i64 aW_Server_Store_Log_NextSeq, .int .i64 aW_Server_Store_Log_Stamp, .int .i64 aW_Server_Store_Log_NextValid, .ow 1 v24_13_Server_Store_Freed, .ow 17 v24_13_Server_Sessions, .ow 1 v24_13_Codes]) := ⟨_, _, _, _, _, _, rfl, rfl, rfl, rfl, rfl, rfl, by subst haW_Server_Store_Log_Disk_Sectors_r haW_Server_Store_Log_Disk_Cache_r haW_Server_Store_Log_Used_r haW_Server_Store_Freed_r haW_Server_Sessions_r haW_Codes_r; exact r_laws_toWorld A hA (⟨⟨⟨⟨⟨aW_Server_Store_Log_Disk_Sectors, aW_Server_Store_Log_Disk_Cache⟩, aW_Server_Store_Log_Segs, aW_Server_Store_Log_Used, aW_Server_Store_Log_NextGen, aW_Server_Store_Log_NextSeq, aW_Server_Store_Log_Stamp, aW_Server_Store_Log_NextValid⟩, aW_Server_Store_Freed⟩, aW_Server_Sessions⟩, aW_Codes⟩ : GWorld) jaW⟩
      have lv24_13_Server_Store_Log_Disk_Sectors : A.rlen v24_13_Server_Store_Log_Disk_Sectors = (List.length aW_Server_Store_Log_Disk_Sectors : Int) := rlen_map hA hv24_13_Server_Store_Log_Disk_Sectors
      have lv24_13_Server_Store_Log_Disk_Cache : A.rlen v24_13_Server_Store_Log_Disk_Cache = (List.length aW_Server_Store_Log_Disk_Cache : Int) := rlen_map hA hv24_13_Server_Store_Log_Disk_Cache
      have lv24_13_Server_Store_Log_Used : A.rlen v24_13_Server_Store_Log_Used = (List.length aW_Server_Store_Log_Used : Int) := rlen_map hA hv24_13_Server_Store_Log_Used
      have lv24_13_Server_Store_Freed : A.rlen v24_13_Server_Store_Freed = (List.length aW_Server_Store_Freed : Int) := rlen_map hA hv24_13_Server_Store_Freed
      have lv24_13_Server_Sessions : A.rlen v24_13_Server_Sessions = (List.length aW_Server_Sessions : Int) := rlen_map hA hv24_13_Server_Sessions
      have lv24_13_Codes : A.rlen v24_13_Codes = (List.length aW_Codes : Int) := rlen_map hA hv24_13_Codes
      refine dops_callV rfl rfl (by cbv) (by cbv) hc14 (.inr rfl) ?_
      have hc16 : Real Try.prog 29 [.agg [.sl 1 (eraseR v16_8_Server_Store_Log_Disk_Sectors), .sl 2 (eraseR v16_8_Server_Store_Log_Disk_Cache), .int .i64 aW_Server_Store_Log_Segs, .sl 4 (eraseR v16_8_Server_Store_Log_Used), .int .i64 aW_Server_Store_Log_NextGen, .int .i64 aW_Server_Store_Log_NextSeq, .int .i64 aW_Server_Store_Log_Stamp, .int .i64 aW_Server_Store_Log_NextValid, .sl 1 (eraseR v16_8_Server_Store_Freed), .sl 17 (eraseR v16_8_Server_Sessions), .sl 1 (eraseR v16_8_Codes)], .agg [.sl 1 (eraseR v24_13_Server_Store_Log_Disk_Sectors), .sl 2 (eraseR v24_13_Server_Store_Log_Disk_Cache), .int .i64 aW_Server_Store_Log_Segs, .sl 4 (eraseR v24_13_Server_Store_Log_Used), .int .i64 aW_Server_Store_Log_NextGen, .int .i64 aW_Server_Store_Log_NextSeq, .int .i64 aW_Server_Store_Log_Stamp, .int .i64 aW_Server_Store_Log_NextValid, .sl 1 (eraseR v24_13_Server_Store_Freed), .sl 17 (eraseR v24_13_Server_Sessions), .sl 1 (eraseR v24_13_Codes)]] (.bool true) := by subst hv16_8_Server_Store_Log_Disk_Sectors hv16_8_Server_Store_Log_Disk_Cache hv16_8_Server_Store_Log_Used hv16_8_Server_Store_Freed hv16_8_Server_Sessions hv16_8_Codes hv24_13_Server_Store_Log_Disk_Sectors hv24_13_Server_Store_Log_Disk_Cache hv24_13_Server_Store_Log_Used hv24_13_Server_Store_Freed hv24_13_Server_Sessions hv24_13_Codes; simp only [erR_Int, erR_Seg, erR_Session, erR_String, erR_Write]; exact r_laws_eqWorld A hA (⟨⟨⟨⟨⟨aW_Server_Store_Log_Disk_Sectors, aW_Server_Store_Log_Disk_Cache⟩, aW_Server_Store_Log_Segs, aW_Server_Store_Log_Used, aW_Server_Store_Log_NextGen, aW_Server_Store_Log_NextSeq, aW_Server_Store_Log_Stamp, aW_Server_Store_Log_NextValid⟩, aW_Server_Store_Freed⟩, aW_Server_Sessions⟩, aW_Codes⟩ : GWorld) iaW
      refine dops_callV rfl rfl (by cbv) (by cbv) hc16 (.inl trivial) ?_
      refine run_dops hA 1 _ _ _ _ (by cbv) ?_
      refine dops_done ?_
      refine go_cond rfl (fun c17 => ?_) (fun c17 => ?_)
      · skip
        exact absurd (show (A.bnot true) = true from c17) (by rw [show (A.bnot true) = false from by subst hA; rfl]; decide)
      · skip
        refine go_skip ?_
        refine go_seq ?_
        refine go_reg ?_
        refine run_aops hA 1 _ _ _ _ (by cbv) ?_
        refine ops_done ?_
        refine go_ret ⟨_, by cbv, ?_⟩
        show _ = (PV.bool true)
        rfl
end Go.Av

/- Walks: sessions made and fed. -/
import Derived.Test.YtjbokkoiicoahaaGreatD1
import Derived.Test.YtjbokkoiicoahaaGreatC5
import Derived.Test.YtjbokkoiicoahaaGreatC8
namespace Go.Av
open Go Go.Proofs
set_option maxRecDepth 100000
set_option maxHeartbeats 4000000
set_option linter.unusedVariables false
set_option linter.unusedSimpArgs false
def ses0 (k : Int) (o : ByteArray) : GSession := ⟨k, ByteArray.empty, o, false, ⟨0, ByteArray.empty, [], []⟩, ⟨0, ByteArray.empty, [], []⟩, ⟨0, ByteArray.empty, ByteArray.empty, 0, []⟩⟩
def sesNew (k : Int) : GSession := if k = 1 then ses0 k (ByteArray.mk #[50, 50, 48, 32, 104, 101, 108, 108, 111, 13, 10]) else if k = 2 then ses0 k (ByteArray.mk #[43, 111, 107, 32, 104, 101, 108, 108, 111, 13, 10]) else if k = 3 then ses0 k (ByteArray.mk #[42, 32, 111, 107, 32, 104, 101, 108, 108, 111, 13, 10]) else ses0 0 ByteArray.empty
def sesOk (k : Int) : Bool := decide (k = 1) || (decide (k = 2) || decide (k = 3))
def feedOk (x : GSession) (t : ByteArray) : Bool := !x.Over && decide ((x.In.size : Int) + t.size ≤ 400)
def feedS (x : GSession) (t : ByteArray) : GSession := if feedOk x t then { x with In := x.In ++ t } else x
def openB (xs : List GSession) (k : Int) : Bool := sesOk k && decide ((xs.length : Int) < 4)
def openL (xs : List GSession) (k : Int) : List GSession := if openB xs k then xs ++ [sesNew k] else xs
def fedB (xs : List GSession) (i : Int) (t : ByteArray) : Bool := decide (0 ≤ i) && ((xs[i.toNat]?).any fun x => feedOk x t)
def fedL (xs : List GSession) (i : Int) (t : ByteArray) : List GSession := if fedB xs i t then (match xs[i.toNat]? with | some x => xs.set i.toNat (feedS x t) | none => xs) else xs
theorem fedB_none {xs : List GSession} {i : Int} {t : ByteArray} (h : ¬ 0 ≤ i ∨ ¬ i ≤ (xs.length : Int) - 1) : fedB xs i t = false := by
  unfold fedB
  rcases h with h | h
  · simp [h]
  · have : xs[i.toNat]? = none := List.getElem?_eq_none (by omega)
    simp [this]
theorem fedB_some {xs : List GSession} {i : Int} {t : ByteArray} {x : GSession} (h0 : 0 ≤ i) (h : xs[i.toNat]? = some x) : fedB xs i t = feedOk x t := by
 simp [fedB, h0, h]
theorem fedL_no {xs : List GSession} {i : Int} {t : ByteArray} (h : fedB xs i t = false) : fedL xs i t = xs := by rw [fedL, h]; rfl
theorem fedL_yes {xs : List GSession} {i : Int} {t : ByteArray} {x : GSession} (h : fedB xs i t = true) (hx : xs[i.toNat]? = some x) : fedL xs i t = xs.set i.toNat (feedS x t) := by rw [fedL, h, if_pos rfl, hx]
theorem feedS_no {x : GSession} {t : ByteArray} (h : feedOk x t = false) : feedS x t = x := by rw [feedS, h]; rfl
theorem feedS_yes {x : GSession} {t : ByteArray} (h : feedOk x t = true) : feedS x t = { x with In := x.In ++ t } := by rw [feedS, h]; rfl
theorem r_impl_in (A : Alg) (hA : A = std) (n : Int) (lo : Int) (hi : Int)  : Real Tryz.prog 62 [.int .i64 n, .int .i64 lo, .int .i64 hi] (.bool (inR n lo hi)) := by
 refine real_args (args' := [.int .i64 n, .int .i64 lo, .int .i64 hi]) (by rfl) ?_
 refine real tyOk Tryz.func62 (by kernel_rfl) (afun_of rfl ?_)
 refine gs (gr (ra hA 1 (by cbv) (od ?_)))
 refine gs (gr (ra hA 4 (by cbv) ?_))
 refine ops_split 10 rfl (fun c1 => ?_) (fun c1 => ?_)
 ·
  have ec1 : lo ≤ n := geq_t hA c1
  refine ra hA 5 (by cbv) (od ?_)
  refine go_ret ⟨_, by cbv, ?_⟩
  show _ = (PV.bool (A.cmp .leq n hi))
  refine congrArg PV.bool ?_
  try simp only [slen_eq hA] at *
  subst hA
  simp [inR, std, ec1]
 ·
  have ec1 : n < lo := geq_f hA c1
  refine ra hA 5 (by cbv) (od ?_)
  refine go_ret ⟨_, by cbv, ?_⟩
  show _ = (PV.bool false)
  refine congrArg PV.bool ?_
  try simp only [slen_eq hA] at *
  subst hA
  simp [inR, std, ec1, Int.not_le.2 ec1]
theorem r_spec_l01In (A : Alg) (hA : A = std) (n : Int) (lo : Int) (hi : Int)  : Real Tryz.prog 28 [.int .i64 n, .int .i64 lo, .int .i64 hi] (.bool (inR n lo hi)) := by
 refine real_args (args' := [.int .i64 n, .int .i64 lo, .int .i64 hi]) (by rfl) ?_
 refine real tyOk Tryz.func28 (by kernel_rfl) (afun_of rfl ?_)
 refine gs (gr (ra hA 1 (by cbv) (od ?_)))
 refine gs (gr (ra hA 4 (by cbv) ?_))
 refine ops_split 10 rfl (fun c1 => ?_) (fun c1 => ?_)
 ·
  have ec1 : lo ≤ n := geq_t hA c1
  refine ra hA 5 (by cbv) (od ?_)
  refine go_ret ⟨_, by cbv, ?_⟩
  show _ = (PV.bool (A.cmp .leq n hi))
  refine congrArg PV.bool ?_
  try simp only [slen_eq hA] at *
  subst hA
  simp [inR, std, ec1]
 ·
  have ec1 : n < lo := geq_f hA c1
  refine ra hA 5 (by cbv) (od ?_)
  refine go_ret ⟨_, by cbv, ?_⟩
  show _ = (PV.bool false)
  refine congrArg PV.bool ?_
  try simp only [slen_eq hA] at *
  subst hA
  simp [inR, std, ec1, Int.not_le.2 ec1]
theorem r_impl_SessionNew (A : Alg) (hA : A = std) (k : Int)  : Real Tryz.prog 80 [.int .i64 k] (.tup [.agg (eoSession (sesNew k)), .bool (sesOk k)]) := by
 refine real_args (args' := [.int .i64 k]) (by rfl) ?_
 refine real tyOk Tryz.func80 (by kernel_rfl) (afun_of rfl ?_)
 refine gs (gr (ra hA 2 (by cbv) (od ?_)))
 refine gs (gr (ra hA 4 (by cbv) (od ?_)))
 refine gs (gs (gr (ra hA 1 (by cbv) (od ?_))))
 refine go_block ?_
 refine gs (gr (ra hA 2 (by cbv) (od ?_)))
 refine go_cond rfl (fun c1 => ?_) (fun c1 => ?_)
 ·
  have ec1 : k = 1 := eql_t hA c1
  refine gr (ra hA 2 (by cbv) (od ?_))
  refine gs (gB (ra hA 3 (by cbv) ?_))
  refine ops_doneB (tw := [.cell 2 6 9001 1, .cell 2 7 9002 1, .cell 2 10 9003 3, .cell 2 11 9004 1, .cell 2 16 9005 1]) (by cbv) ?_
  refine go_ret ⟨_, by cbv, ?_⟩
  show _ = PV.tup [.agg [.int .i64 k, .str ByteArray.empty, .str (ByteArray.mk #[50, 50, 48, 32, 104, 101, 108, 108, 111, 13, 10]), .bool false, .int .i64 0, .str ByteArray.empty, .ow 1 ([]), .ow 1 ([]), .int .i64 0, .str ByteArray.empty, .ow 3 ([]), .ow 1 ([]), .int .i64 0, .str ByteArray.empty, .str ByteArray.empty, .int .i64 0, .ow 1 ([])], .bool true]
  have E2 : sesOk k = true := by simp [sesOk, ec1]
  have E1 : sesNew k = ses0 k (ByteArray.mk #[50, 50, 48, 32, 104, 101, 108, 108, 111, 13, 10]) := by unfold sesNew; simp [ec1]
  rw [E1, E2]
  rfl
 ·
  have ec1 : k ≠ 1 := eql_f hA c1
  refine gs (gr (ra hA 2 (by cbv) (od ?_)))
  refine go_cond rfl (fun c2 => ?_) (fun c2 => ?_)
  ·
   have ec2 : k = 2 := eql_t hA c2
   refine gr (ra hA 2 (by cbv) (od ?_))
   refine gs (gB (ra hA 3 (by cbv) ?_))
   refine ops_doneB (tw := [.cell 2 6 9001 1, .cell 2 7 9002 1, .cell 2 10 9003 3, .cell 2 11 9004 1, .cell 2 16 9005 1]) (by cbv) ?_
   refine go_ret ⟨_, by cbv, ?_⟩
   show _ = PV.tup [.agg [.int .i64 k, .str ByteArray.empty, .str (ByteArray.mk #[43, 111, 107, 32, 104, 101, 108, 108, 111, 13, 10]), .bool false, .int .i64 0, .str ByteArray.empty, .ow 1 ([]), .ow 1 ([]), .int .i64 0, .str ByteArray.empty, .ow 3 ([]), .ow 1 ([]), .int .i64 0, .str ByteArray.empty, .str ByteArray.empty, .int .i64 0, .ow 1 ([])], .bool true]
   have E2 : sesOk k = true := by simp [sesOk, ec1, ec1.symm, ec2]
   have E1 : sesNew k = ses0 k (ByteArray.mk #[43, 111, 107, 32, 104, 101, 108, 108, 111, 13, 10]) := by unfold sesNew; simp [ec1, ec1.symm, ec2]
   rw [E1, E2]
   rfl
  ·
   have ec2 : k ≠ 2 := eql_f hA c2
   refine gs (gr (ra hA 2 (by cbv) (od ?_)))
   refine go_cond rfl (fun c3 => ?_) (fun c3 => ?_)
   ·
    have ec3 : k = 3 := eql_t hA c3
    refine gr (ra hA 2 (by cbv) (od ?_))
    refine gs (gB (ra hA 3 (by cbv) ?_))
    refine ops_doneB (tw := [.cell 2 6 9001 1, .cell 2 7 9002 1, .cell 2 10 9003 3, .cell 2 11 9004 1, .cell 2 16 9005 1]) (by cbv) ?_
    refine go_ret ⟨_, by cbv, ?_⟩
    show _ = PV.tup [.agg [.int .i64 k, .str ByteArray.empty, .str (ByteArray.mk #[42, 32, 111, 107, 32, 104, 101, 108, 108, 111, 13, 10]), .bool false, .int .i64 0, .str ByteArray.empty, .ow 1 ([]), .ow 1 ([]), .int .i64 0, .str ByteArray.empty, .ow 3 ([]), .ow 1 ([]), .int .i64 0, .str ByteArray.empty, .str ByteArray.empty, .int .i64 0, .ow 1 ([])], .bool true]
    have E2 : sesOk k = true := by simp [sesOk, ec1, ec1.symm, ec2, ec2.symm, ec3]
    have E1 : sesNew k = ses0 k (ByteArray.mk #[42, 32, 111, 107, 32, 104, 101, 108, 108, 111, 13, 10]) := by unfold sesNew; simp [ec1, ec1.symm, ec2, ec2.symm, ec3]
    rw [E1, E2]
    rfl
   ·
    have ec3 : k ≠ 3 := eql_f hA c3
    refine gs (gB (ra hA 3 (by cbv) ?_))
    refine ops_doneB (tw := [.cell 2 6 9001 1, .cell 2 7 9002 1, .cell 2 10 9003 3, .cell 2 11 9004 1, .cell 2 16 9005 1]) (by cbv) ?_
    refine go_ret ⟨_, by cbv, ?_⟩
    show _ = PV.tup [.agg [.int .i64 0, .str ByteArray.empty, .str ByteArray.empty, .bool false, .int .i64 0, .str ByteArray.empty, .ow 1 ([]), .ow 1 ([]), .int .i64 0, .str ByteArray.empty, .ow 3 ([]), .ow 1 ([]), .int .i64 0, .str ByteArray.empty, .str ByteArray.empty, .int .i64 0, .ow 1 ([])], .bool false]
    have E2 : sesOk k = false := by simp [sesOk, ec1, ec1.symm, ec2, ec2.symm, ec3, ec3.symm]
    have E1 : sesNew k = ses0 0 ByteArray.empty := by unfold sesNew; simp [ec1, ec1.symm, ec2, ec2.symm, ec3, ec3.symm]
    rw [E1, E2]
    rfl
theorem r_spec_SessionNew (A : Alg) (hA : A = std) (k : Int)  : Real Tryz.prog 40 [.int .i64 k] (.tup [.agg (eoSession (sesNew k)), .bool (sesOk k)]) := by
 refine real_args (args' := [.int .i64 k]) (by rfl) ?_
 refine real tyOk Tryz.func40 (by kernel_rfl) (afun_of rfl ?_)
 refine gs (gr (ra hA 2 (by cbv) (od ?_)))
 refine gs (gs (gr (ra hA 1 (by cbv) (od ?_))))
 refine go_block ?_
 refine gs (gr (ra hA 2 (by cbv) (od ?_)))
 refine go_cond rfl (fun c1 => ?_) (fun c1 => ?_)
 ·
  have ec1 : k = 1 := eql_t hA c1
  refine gs (gB (ra hA 4 (by cbv) ?_))
  refine ops_doneB (tw := [.cell 2 6 9001 1, .cell 2 7 9002 1, .cell 2 10 9003 3, .cell 2 11 9004 1, .cell 2 16 9005 1]) (by cbv) ?_
  refine go_ret ⟨_, by cbv, ?_⟩
  show _ = PV.tup [.agg [.int .i64 k, .str ByteArray.empty, .str (ByteArray.mk #[50, 50, 48, 32, 104, 101, 108, 108, 111, 13, 10]), .bool false, .int .i64 0, .str ByteArray.empty, .ow 1 ([]), .ow 1 ([]), .int .i64 0, .str ByteArray.empty, .ow 3 ([]), .ow 1 ([]), .int .i64 0, .str ByteArray.empty, .str ByteArray.empty, .int .i64 0, .ow 1 ([])], .bool true]
  have E2 : sesOk k = true := by simp [sesOk, ec1]
  have E1 : sesNew k = ses0 k (ByteArray.mk #[50, 50, 48, 32, 104, 101, 108, 108, 111, 13, 10]) := by unfold sesNew; simp [ec1]
  rw [E1, E2]
  rfl
 ·
  have ec1 : k ≠ 1 := eql_f hA c1
  refine gs (gr (ra hA 2 (by cbv) (od ?_)))
  refine go_cond rfl (fun c2 => ?_) (fun c2 => ?_)
  ·
   have ec2 : k = 2 := eql_t hA c2
   refine gs (gB (ra hA 4 (by cbv) ?_))
   refine ops_doneB (tw := [.cell 2 6 9001 1, .cell 2 7 9002 1, .cell 2 10 9003 3, .cell 2 11 9004 1, .cell 2 16 9005 1]) (by cbv) ?_
   refine go_ret ⟨_, by cbv, ?_⟩
   show _ = PV.tup [.agg [.int .i64 k, .str ByteArray.empty, .str (ByteArray.mk #[43, 111, 107, 32, 104, 101, 108, 108, 111, 13, 10]), .bool false, .int .i64 0, .str ByteArray.empty, .ow 1 ([]), .ow 1 ([]), .int .i64 0, .str ByteArray.empty, .ow 3 ([]), .ow 1 ([]), .int .i64 0, .str ByteArray.empty, .str ByteArray.empty, .int .i64 0, .ow 1 ([])], .bool true]
   have E2 : sesOk k = true := by simp [sesOk, ec1, ec1.symm, ec2]
   have E1 : sesNew k = ses0 k (ByteArray.mk #[43, 111, 107, 32, 104, 101, 108, 108, 111, 13, 10]) := by unfold sesNew; simp [ec1, ec1.symm, ec2]
   rw [E1, E2]
   rfl
  ·
   have ec2 : k ≠ 2 := eql_f hA c2
   refine gs (gr (ra hA 2 (by cbv) (od ?_)))
   refine go_cond rfl (fun c3 => ?_) (fun c3 => ?_)
   ·
    have ec3 : k = 3 := eql_t hA c3
    refine gs (gB (ra hA 4 (by cbv) ?_))
    refine ops_doneB (tw := [.cell 2 6 9001 1, .cell 2 7 9002 1, .cell 2 10 9003 3, .cell 2 11 9004 1, .cell 2 16 9005 1]) (by cbv) ?_
    refine go_ret ⟨_, by cbv, ?_⟩
    show _ = PV.tup [.agg [.int .i64 k, .str ByteArray.empty, .str (ByteArray.mk #[42, 32, 111, 107, 32, 104, 101, 108, 108, 111, 13, 10]), .bool false, .int .i64 0, .str ByteArray.empty, .ow 1 ([]), .ow 1 ([]), .int .i64 0, .str ByteArray.empty, .ow 3 ([]), .ow 1 ([]), .int .i64 0, .str ByteArray.empty, .str ByteArray.empty, .int .i64 0, .ow 1 ([])], .bool true]
    have E2 : sesOk k = true := by simp [sesOk, ec1, ec1.symm, ec2, ec2.symm, ec3]
    have E1 : sesNew k = ses0 k (ByteArray.mk #[42, 32, 111, 107, 32, 104, 101, 108, 108, 111, 13, 10]) := by unfold sesNew; simp [ec1, ec1.symm, ec2, ec2.symm, ec3]
    rw [E1, E2]
    rfl
   ·
    have ec3 : k ≠ 3 := eql_f hA c3
    refine gk (gs (gB (ra hA 3 (by cbv) ?_)))
    refine ops_doneB (tw := [.cell 2 6 9001 1, .cell 2 7 9002 1, .cell 2 10 9003 3, .cell 2 11 9004 1, .cell 2 16 9005 1]) (by cbv) ?_
    refine go_ret ⟨_, by cbv, ?_⟩
    show _ = PV.tup [.agg [.int .i64 0, .str ByteArray.empty, .str ByteArray.empty, .bool false, .int .i64 0, .str ByteArray.empty, .ow 1 ([]), .ow 1 ([]), .int .i64 0, .str ByteArray.empty, .ow 3 ([]), .ow 1 ([]), .int .i64 0, .str ByteArray.empty, .str ByteArray.empty, .int .i64 0, .ow 1 ([])], .bool false]
    have E2 : sesOk k = false := by simp [sesOk, ec1, ec1.symm, ec2, ec2.symm, ec3, ec3.symm]
    have E1 : sesNew k = ses0 0 ByteArray.empty := by unfold sesNew; simp [ec1, ec1.symm, ec2, ec2.symm, ec3, ec3.symm]
    rw [E1, E2]
    rfl
theorem r_impl_FeedSession (A : Alg) (hA : A = std) (x : GSession) (t : ByteArray) (hz : ∀ q ∈ zsSession x, q ≤ 1048576) (ht : ByteArray.size t ≤ 1048576) : Real Tryz.prog 63 [.agg (eSession x), .str t] (.tup [.agg (eoSession (feedS x t)), .bool (feedOk x t)]) := by
 obtain ⟨d2, c8, d3, d1, ⟨a0, a2, b6, b0⟩, ⟨a1, a3, a8, a9⟩, ⟨a4, a6, a7, a5, b2⟩⟩ := x
 obtain ⟨e3, d8⟩ := nm (b6.map eString)
 have g3 := rlen_map hA d8
 obtain ⟨e0, d6⟩ := nm (b0.map eString)
 have f6 := rlen_map hA d6
 obtain ⟨d9, d4⟩ := nm (a8.map eMail)
 have f5 := rlen_map hA d4
 obtain ⟨e1, d5⟩ := nm (a9.map eBool)
 have f8 := rlen_map hA d5
 obtain ⟨e2, d7⟩ := nm (b2.map eInt)
 have g1 := rlen_map hA d7
 refine real_args (args' := [.agg [.int .i64 d2, .str c8, .str d3, .bool d1, .int .i64 a0, .str a2, .sl 1 e3, .sl 1 e0, .int .i64 a1, .str a3, .sl 3 d9, .sl 1 e1, .int .i64 a4, .str a6, .str a7, .int .i64 a5, .sl 1 e2], .str t]) (by subst d8 d6 d4 d5 d7; rfl) ?_
 have i2 : ByteArray.size c8 ≤ 1048576 := hz _ (by simp [zsSession])
 have i1 : ByteArray.size d3 ≤ 1048576 := hz _ (by simp [zsSession])
 have e5 : ∀ q ∈ zsBring (⟨a0, a2, b6, b0⟩ : GBring), q ≤ 1048576 := fun q hq => hz q (by simp only [zsSession, List.mem_append]; simp only [hq, true_or, or_true])
 have g2 : ByteArray.size a2 ≤ 1048576 := e5 _ (by simp [zsBring])
 have f1 : ∀ q ∈ zsStringS b6, q ≤ 1048576 := fun q hq => e5 q (by simp only [zsBring, List.mem_append]; simp only [hq, true_or, or_true])
 have i0 : List.length b6 ≤ 1048576 := f1 _ (by simp [zsStringS])
 have e9 : ∀ q ∈ zsStringS b0, q ≤ 1048576 := fun q hq => e5 q (by simp only [zsBring, List.mem_append]; simp only [hq, true_or, or_true])
 have g4 : List.length b0 ≤ 1048576 := e9 _ (by simp [zsStringS])
 have e4 : ∀ q ∈ zsFetch (⟨a1, a3, a8, a9⟩ : GFetch), q ≤ 1048576 := fun q hq => hz q (by simp only [zsSession, List.mem_append]; simp only [hq, true_or, or_true])
 have g5 : ByteArray.size a3 ≤ 1048576 := e4 _ (by simp [zsFetch])
 have e6 : ∀ q ∈ zsMailS a8, q ≤ 1048576 := fun q hq => e4 q (by simp only [zsFetch, List.mem_append]; simp only [hq, true_or, or_true])
 have f9 : List.length a8 ≤ 1048576 := e6 _ (by simp [zsMailS])
 have e8 : ∀ q ∈ zsBoolS a9, q ≤ 1048576 := fun q hq => e4 q (by simp only [zsFetch, List.mem_append]; simp only [hq, true_or, or_true])
 have g6 : List.length a9 ≤ 1048576 := e8 _ (by simp [zsBoolS])
 have e7 : ∀ q ∈ zsLook (⟨a4, a6, a7, a5, b2⟩ : GLook), q ≤ 1048576 := fun q hq => hz q (by simp only [zsSession, List.mem_append]; simp only [hq, true_or, or_true])
 have g7 : ByteArray.size a6 ≤ 1048576 := e7 _ (by simp [zsLook])
 have g9 : ByteArray.size a7 ≤ 1048576 := e7 _ (by simp [zsLook])
 have f0 : ∀ q ∈ zsIntS b2, q ≤ 1048576 := fun q hq => e7 q (by simp only [zsLook, List.mem_append]; simp only [hq, true_or, or_true])
 have g8 : List.length b2 ≤ 1048576 := f0 _ (by simp [zsIntS])
 have zi := slen_eq hA c8
 have zt := slen_eq hA t
 have wsub : A.num .sub .i64 400 (A.slen c8) = 400 - (ByteArray.size c8 : Int) := by rw [zi]; exact sub_i64 hA (by omega) (by omega)
 have wadd : A.num .add .i64 (A.slen c8) (A.slen t) = (ByteArray.size c8 : Int) + (ByteArray.size t : Int) := by rw [zi, zt]; exact add_i64 hA (by omega) (by omega)
 refine real tyOk Tryz.func63 (by kernel_rfl) (afun_of rfl ?_)
 refine gs (gr (ra hA 3 (by cbv) (od ?_)))
 refine gs (gr (ra hA 1 (by cbv) ?_))
 obtain ⟨b7, b4, b1, b3, b5, d0, c0, b8, b9, c9, hc2⟩ : ∃ (b7 : RR) (b4 : RR) (b1 : RR) (b3 : RR) (b5 : RR), b7 = List.map eString b6 ∧ b4 = List.map eString b0 ∧ b1 = List.map eoMail a8 ∧ b3 = List.map eBool a9 ∧ b5 = List.map eInt b2 ∧ Real Tryz.prog 95 [.agg [.int .i64 d2, .str c8, .str d3, .bool d1, .int .i64 a0, .str a2, .sl 1 e3, .sl 1 e0, .int .i64 a1, .str a3, .sl 3 d9, .sl 1 e1, .int .i64 a4, .str a6, .str a7, .int .i64 a5, .sl 1 e2]] (.agg [.int .i64 d2, .str c8, .str d3, .bool d1, .int .i64 a0, .str a2, .ow 1 b7, .ow 1 b4, .int .i64 a1, .str a3, .ow 3 b1, .ow 1 b3, .int .i64 a4, .str a6, .str a7, .int .i64 a5, .ow 1 b5]) := ⟨_, _, _, _, _, rfl, rfl, rfl, rfl, rfl, by subst d8 d6 d4 d5 d7; exact r_impl_cloneSession A hA (⟨d2, c8, d3, d1, ⟨a0, a2, b6, b0⟩, ⟨a1, a3, a8, a9⟩, ⟨a4, a6, a7, a5, b2⟩⟩ : GSession) (by assumption)⟩
 have g0 := rlen_map hA d0
 have f4 := rlen_map hA c0
 have f2 := rlen_map hA b8
 have f3 := rlen_map hA b9
 have f7 := rlen_map hA c9
 refine ops_callV rfl rfl (by cbv) (by cbv) hc2 (.inr rfl) (by cbv) ?_
 refine ra hA 2 (by cbv) (od ?_)
 refine gs (gs (gr (ra hA 3 (by cbv) ?_)))
 refine ops_split 11 rfl (fun c3 => ?_) (fun c3 => ?_)
 ·
  refine ra hA 8 (by cbv) (od ?_)
  refine go_cond rfl (fun c4 => ?_) (fun c4 => ?_)
  ·
   refine gs (gr (ra hA 3 (by cbv) (od ?_)))
   refine go_ret ⟨_, by cbv, ?_⟩
   show _ = PV.tup [.agg [.int .i64 d2, .str c8, .str d3, .bool d1, .int .i64 a0, .str a2, .ow 1 b7, .ow 1 b4, .int .i64 a1, .str a3, .ow 3 b1, .ow 1 b3, .int .i64 a4, .str a6, .str a7, .int .i64 a5, .ow 1 b5], .bool false]
   have E : feedOk (⟨d2, c8, d3, d1, ⟨a0, a2, b6, b0⟩, ⟨a1, a3, a8, a9⟩, ⟨a4, a6, a7, a5, b2⟩⟩ : GSession) t = false := by
    simp only [feedOk, Bool.and_eq_false_iff, Bool.not_eq_false', decide_eq_false_iff_not]
    first | exact .inl (by assumption) | exact .inr (by omega)
   rw [feedS_no E, E]
   simp only [d0, c0, b8, b9, c9]
   rfl
  ·
   exact no_f c4 (show true = true from by rfl)
 ·
  refine ra hA 8 (by cbv) (od ?_)
  refine go_cond rfl (fun c5 => ?_) (fun c5 => ?_)
  ·
   have ec5 : (A.num .sub .i64 400 (A.slen c8)) < (A.slen t) := gtr_t hA c5
   refine gs (gr (ra hA 3 (by cbv) (od ?_)))
   refine go_ret ⟨_, by cbv, ?_⟩
   show _ = PV.tup [.agg [.int .i64 d2, .str c8, .str d3, .bool d1, .int .i64 a0, .str a2, .ow 1 b7, .ow 1 b4, .int .i64 a1, .str a3, .ow 3 b1, .ow 1 b3, .int .i64 a4, .str a6, .str a7, .int .i64 a5, .ow 1 b5], .bool false]
   have E : feedOk (⟨d2, c8, d3, d1, ⟨a0, a2, b6, b0⟩, ⟨a1, a3, a8, a9⟩, ⟨a4, a6, a7, a5, b2⟩⟩ : GSession) t = false := by
    simp only [feedOk, Bool.and_eq_false_iff, Bool.not_eq_false', decide_eq_false_iff_not]
    first | exact .inl (by assumption) | exact .inr (by omega)
   rw [feedS_no E, E]
   simp only [d0, c0, b8, b9, c9]
   rfl
  ·
   have ec5 : (A.slen t) ≤ (A.num .sub .i64 400 (A.slen c8)) := gtr_f hA c5
   refine gk (gs (gr (ra hA 3 (by cbv) ?_)))
   obtain ⟨s6, hs6⟩ := nm (c8 ++ t : ByteArray)
   have zs6 : ByteArray.size s6 = ByteArray.size c8 + ByteArray.size t := by rw [hs6]; exact ByteArray.size_append
   have bs6 : ByteArray.size c8 + ByteArray.size t ≤ 140737488355328 := by
    omega
   refine ops_step rfl rfl (str_add rfl rfl rfl hs6 bs6) ?_
   refine ra hA 2 (by cbv) (od ?_)
   refine gs (gr (ra hA 3 (by cbv) (od ?_)))
   refine go_ret ⟨_, by cbv, ?_⟩
   show _ = PV.tup [.agg [.int .i64 d2, .str s6, .str d3, .bool d1, .int .i64 a0, .str a2, .ow 1 b7, .ow 1 b4, .int .i64 a1, .str a3, .ow 3 b1, .ow 1 b3, .int .i64 a4, .str a6, .str a7, .int .i64 a5, .ow 1 b5], .bool true]
   have E : feedOk (⟨d2, c8, d3, d1, ⟨a0, a2, b6, b0⟩, ⟨a1, a3, a8, a9⟩, ⟨a4, a6, a7, a5, b2⟩⟩ : GSession) t = true := by
    simp only [feedOk, Bool.and_eq_true, Bool.not_eq_true', decide_eq_true_eq]
    exact ⟨by assumption, by omega⟩
   rw [feedS_yes E, E]
   simp only [d0, c0, b8, b9, c9, hs6]
   rfl
theorem r_spec_FeedSession (A : Alg) (hA : A = std) (x : GSession) (t : ByteArray) (hz : ∀ q ∈ zsSession x, q ≤ 1048576) (ht : ByteArray.size t ≤ 1048576) : Real Tryz.prog 29 [.agg (eSession x), .str t] (.tup [.agg (eoSession (feedS x t)), .bool (feedOk x t)]) := by
 obtain ⟨d2, c8, d3, d1, ⟨a0, a2, b6, b0⟩, ⟨a1, a3, a8, a9⟩, ⟨a4, a6, a7, a5, b2⟩⟩ := x
 obtain ⟨e3, d8⟩ := nm (b6.map eString)
 have g3 := rlen_map hA d8
 obtain ⟨e0, d6⟩ := nm (b0.map eString)
 have f6 := rlen_map hA d6
 obtain ⟨d9, d4⟩ := nm (a8.map eMail)
 have f5 := rlen_map hA d4
 obtain ⟨e1, d5⟩ := nm (a9.map eBool)
 have f8 := rlen_map hA d5
 obtain ⟨e2, d7⟩ := nm (b2.map eInt)
 have g1 := rlen_map hA d7
 refine real_args (args' := [.agg [.int .i64 d2, .str c8, .str d3, .bool d1, .int .i64 a0, .str a2, .sl 1 e3, .sl 1 e0, .int .i64 a1, .str a3, .sl 3 d9, .sl 1 e1, .int .i64 a4, .str a6, .str a7, .int .i64 a5, .sl 1 e2], .str t]) (by subst d8 d6 d4 d5 d7; rfl) ?_
 have i2 : ByteArray.size c8 ≤ 1048576 := hz _ (by simp [zsSession])
 have i1 : ByteArray.size d3 ≤ 1048576 := hz _ (by simp [zsSession])
 have e5 : ∀ q ∈ zsBring (⟨a0, a2, b6, b0⟩ : GBring), q ≤ 1048576 := fun q hq => hz q (by simp only [zsSession, List.mem_append]; simp only [hq, true_or, or_true])
 have g2 : ByteArray.size a2 ≤ 1048576 := e5 _ (by simp [zsBring])
 have f1 : ∀ q ∈ zsStringS b6, q ≤ 1048576 := fun q hq => e5 q (by simp only [zsBring, List.mem_append]; simp only [hq, true_or, or_true])
 have i0 : List.length b6 ≤ 1048576 := f1 _ (by simp [zsStringS])
 have e9 : ∀ q ∈ zsStringS b0, q ≤ 1048576 := fun q hq => e5 q (by simp only [zsBring, List.mem_append]; simp only [hq, true_or, or_true])
 have g4 : List.length b0 ≤ 1048576 := e9 _ (by simp [zsStringS])
 have e4 : ∀ q ∈ zsFetch (⟨a1, a3, a8, a9⟩ : GFetch), q ≤ 1048576 := fun q hq => hz q (by simp only [zsSession, List.mem_append]; simp only [hq, true_or, or_true])
 have g5 : ByteArray.size a3 ≤ 1048576 := e4 _ (by simp [zsFetch])
 have e6 : ∀ q ∈ zsMailS a8, q ≤ 1048576 := fun q hq => e4 q (by simp only [zsFetch, List.mem_append]; simp only [hq, true_or, or_true])
 have f9 : List.length a8 ≤ 1048576 := e6 _ (by simp [zsMailS])
 have e8 : ∀ q ∈ zsBoolS a9, q ≤ 1048576 := fun q hq => e4 q (by simp only [zsFetch, List.mem_append]; simp only [hq, true_or, or_true])
 have g6 : List.length a9 ≤ 1048576 := e8 _ (by simp [zsBoolS])
 have e7 : ∀ q ∈ zsLook (⟨a4, a6, a7, a5, b2⟩ : GLook), q ≤ 1048576 := fun q hq => hz q (by simp only [zsSession, List.mem_append]; simp only [hq, true_or, or_true])
 have g7 : ByteArray.size a6 ≤ 1048576 := e7 _ (by simp [zsLook])
 have g9 : ByteArray.size a7 ≤ 1048576 := e7 _ (by simp [zsLook])
 have f0 : ∀ q ∈ zsIntS b2, q ≤ 1048576 := fun q hq => e7 q (by simp only [zsLook, List.mem_append]; simp only [hq, true_or, or_true])
 have g8 : List.length b2 ≤ 1048576 := f0 _ (by simp [zsIntS])
 have zi := slen_eq hA c8
 have zt := slen_eq hA t
 have wsub : A.num .sub .i64 400 (A.slen c8) = 400 - (ByteArray.size c8 : Int) := by rw [zi]; exact sub_i64 hA (by omega) (by omega)
 have wadd : A.num .add .i64 (A.slen c8) (A.slen t) = (ByteArray.size c8 : Int) + (ByteArray.size t : Int) := by rw [zi, zt]; exact add_i64 hA (by omega) (by omega)
 refine real tyOk Tryz.func29 (by kernel_rfl) (afun_of rfl ?_)
 refine gs (gr (ra hA 3 (by cbv) (od ?_)))
 refine gs (gr (ra hA 1 (by cbv) ?_))
 obtain ⟨b7, b4, b1, b3, b5, d0, c0, b8, b9, c9, hc2⟩ : ∃ (b7 : RR) (b4 : RR) (b1 : RR) (b3 : RR) (b5 : RR), b7 = List.map eString b6 ∧ b4 = List.map eString b0 ∧ b1 = List.map eoMail a8 ∧ b3 = List.map eBool a9 ∧ b5 = List.map eInt b2 ∧ Real Tryz.prog 50 [.agg [.int .i64 d2, .str c8, .str d3, .bool d1, .int .i64 a0, .str a2, .sl 1 e3, .sl 1 e0, .int .i64 a1, .str a3, .sl 3 d9, .sl 1 e1, .int .i64 a4, .str a6, .str a7, .int .i64 a5, .sl 1 e2]] (.agg [.int .i64 d2, .str c8, .str d3, .bool d1, .int .i64 a0, .str a2, .ow 1 b7, .ow 1 b4, .int .i64 a1, .str a3, .ow 3 b1, .ow 1 b3, .int .i64 a4, .str a6, .str a7, .int .i64 a5, .ow 1 b5]) := ⟨_, _, _, _, _, rfl, rfl, rfl, rfl, rfl, by subst d8 d6 d4 d5 d7; exact r_spec_l22Copy A hA (⟨d2, c8, d3, d1, ⟨a0, a2, b6, b0⟩, ⟨a1, a3, a8, a9⟩, ⟨a4, a6, a7, a5, b2⟩⟩ : GSession) (by assumption)⟩
 have g0 := rlen_map hA d0
 have f4 := rlen_map hA c0
 have f2 := rlen_map hA b8
 have f3 := rlen_map hA b9
 have f7 := rlen_map hA c9
 refine ops_callV rfl rfl (by cbv) (by cbv) hc2 (.inr rfl) (by cbv) ?_
 refine ra hA 2 (by cbv) (od ?_)
 refine gs (gs (gr (ra hA 3 (by cbv) ?_)))
 refine ops_split 11 rfl (fun c3 => ?_) (fun c3 => ?_)
 ·
  refine ra hA 13 (by cbv) (od ?_)
  refine go_cond rfl (fun c4 => ?_) (fun c4 => ?_)
  ·
   refine gs (gr (ra hA 3 (by cbv) (od ?_)))
   refine go_ret ⟨_, by cbv, ?_⟩
   show _ = PV.tup [.agg [.int .i64 d2, .str c8, .str d3, .bool d1, .int .i64 a0, .str a2, .ow 1 b7, .ow 1 b4, .int .i64 a1, .str a3, .ow 3 b1, .ow 1 b3, .int .i64 a4, .str a6, .str a7, .int .i64 a5, .ow 1 b5], .bool false]
   have E : feedOk (⟨d2, c8, d3, d1, ⟨a0, a2, b6, b0⟩, ⟨a1, a3, a8, a9⟩, ⟨a4, a6, a7, a5, b2⟩⟩ : GSession) t = false := by
    simp only [feedOk, Bool.and_eq_false_iff, Bool.not_eq_false', decide_eq_false_iff_not]
    first | exact .inl (by assumption) | exact .inr (by omega)
   rw [feedS_no E, E]
   simp only [d0, c0, b8, b9, c9]
   rfl
  ·
   exact no_f c4 (show true = true from by rfl)
 ·
  refine ra hA 5 (by cbv) ?_
  refine ops_split 16 rfl (fun c5 => ?_) (fun c5 => ?_)
  ·
   have ec5 : 400 < (A.slen t) := gtr_t hA c5
   refine ra hA 8 (by cbv) (od ?_)
   refine go_cond rfl (fun c6 => ?_) (fun c6 => ?_)
   ·
    refine gs (gr (ra hA 3 (by cbv) (od ?_)))
    refine go_ret ⟨_, by cbv, ?_⟩
    show _ = PV.tup [.agg [.int .i64 d2, .str c8, .str d3, .bool d1, .int .i64 a0, .str a2, .ow 1 b7, .ow 1 b4, .int .i64 a1, .str a3, .ow 3 b1, .ow 1 b3, .int .i64 a4, .str a6, .str a7, .int .i64 a5, .ow 1 b5], .bool false]
    have E : feedOk (⟨d2, c8, d3, d1, ⟨a0, a2, b6, b0⟩, ⟨a1, a3, a8, a9⟩, ⟨a4, a6, a7, a5, b2⟩⟩ : GSession) t = false := by
     simp only [feedOk, Bool.and_eq_false_iff, Bool.not_eq_false', decide_eq_false_iff_not]
     first | exact .inl (by assumption) | exact .inr (by omega)
    rw [feedS_no E, E]
    simp only [d0, c0, b8, b9, c9]
    rfl
   ·
    exact no_f c6 (show true = true from by rfl)
  ·
   have ec5 : (A.slen t) ≤ 400 := gtr_f hA c5
   refine ra hA 8 (by cbv) (od ?_)
   refine go_cond rfl (fun c7 => ?_) (fun c7 => ?_)
   ·
    have ec7 : 400 < (A.num .add .i64 (A.slen c8) (A.slen t)) := gtr_t hA c7
    refine gs (gr (ra hA 3 (by cbv) (od ?_)))
    refine go_ret ⟨_, by cbv, ?_⟩
    show _ = PV.tup [.agg [.int .i64 d2, .str c8, .str d3, .bool d1, .int .i64 a0, .str a2, .ow 1 b7, .ow 1 b4, .int .i64 a1, .str a3, .ow 3 b1, .ow 1 b3, .int .i64 a4, .str a6, .str a7, .int .i64 a5, .ow 1 b5], .bool false]
    have E : feedOk (⟨d2, c8, d3, d1, ⟨a0, a2, b6, b0⟩, ⟨a1, a3, a8, a9⟩, ⟨a4, a6, a7, a5, b2⟩⟩ : GSession) t = false := by
     simp only [feedOk, Bool.and_eq_false_iff, Bool.not_eq_false', decide_eq_false_iff_not]
     first | exact .inl (by assumption) | exact .inr (by omega)
    rw [feedS_no E, E]
    simp only [d0, c0, b8, b9, c9]
    rfl
   ·
    have ec7 : (A.num .add .i64 (A.slen c8) (A.slen t)) ≤ 400 := gtr_f hA c7
    refine gk (gs (gr (ra hA 3 (by cbv) ?_)))
    obtain ⟨s8, hs8⟩ := nm (c8 ++ t : ByteArray)
    have zs8 : ByteArray.size s8 = ByteArray.size c8 + ByteArray.size t := by rw [hs8]; exact ByteArray.size_append
    have bs8 : ByteArray.size c8 + ByteArray.size t ≤ 140737488355328 := by
     omega
    refine ops_step rfl rfl (str_add rfl rfl rfl hs8 bs8) ?_
    refine ra hA 2 (by cbv) (od ?_)
    refine gs (gr (ra hA 3 (by cbv) (od ?_)))
    refine go_ret ⟨_, by cbv, ?_⟩
    show _ = PV.tup [.agg [.int .i64 d2, .str s8, .str d3, .bool d1, .int .i64 a0, .str a2, .ow 1 b7, .ow 1 b4, .int .i64 a1, .str a3, .ow 3 b1, .ow 1 b3, .int .i64 a4, .str a6, .str a7, .int .i64 a5, .ow 1 b5], .bool true]
    have E : feedOk (⟨d2, c8, d3, d1, ⟨a0, a2, b6, b0⟩, ⟨a1, a3, a8, a9⟩, ⟨a4, a6, a7, a5, b2⟩⟩ : GSession) t = true := by
     simp only [feedOk, Bool.and_eq_true, Bool.not_eq_true', decide_eq_true_eq]
     exact ⟨by assumption, by omega⟩
    rw [feedS_yes E, E]
    simp only [d0, c0, b8, b9, c9, hs8]
    rfl
end Go.Av

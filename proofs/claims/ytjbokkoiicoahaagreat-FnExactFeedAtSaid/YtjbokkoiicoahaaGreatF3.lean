/- Walks: OpenAt, FeedAt. -/
import Derived.Test.YtjbokkoiicoahaaGreatF2
namespace Go.Av
open Go Go.Proofs
set_option maxRecDepth 100000
set_option maxHeartbeats 4000000
set_option linter.unusedVariables false
set_option linter.unusedSimpArgs false
theorem r_impl_OpenAt (A : Alg) (hA : A = std) (v : GServer) (k : Int) (hz : ∀ q ∈ zsServer v, q ≤ 1048576) : Real Tryz.prog 15 [.agg (eServer v), .int .i64 k] (.tup [.agg (eoServer ⟨v.Store, openL v.Sessions k⟩), .bool (openB v.Sessions k)]) := by
 obtain ⟨⟨⟨⟨a0, a1⟩, a6, a7, a3, a4, a5, a2⟩, b9⟩, c1⟩ := v
 obtain ⟨d0, a8⟩ := nm (a0.map eString)
 have k0 := rlen_map hA a8
 obtain ⟨d2, b2⟩ := nm (a1.map eWrite)
 have k6 := rlen_map hA b2
 obtain ⟨d6, d1⟩ := nm (a7.map eSeg)
 have m6 := rlen_map hA d1
 obtain ⟨e7, d3⟩ := nm (b9.map eInt)
 have o0 := rlen_map hA d3
 obtain ⟨d4, d5⟩ := nm (c1.map eSession)
 have n9 := rlen_map hA d5
 refine real_args (args' := [.agg [.sl 1 d0, .sl 2 d2, .int .i64 a6, .sl 4 d6, .int .i64 a3, .int .i64 a4, .int .i64 a5, .int .i64 a2, .sl 1 e7, .sl 17 d4], .int .i64 k]) (by subst a8 b2 d1 d3 d5; rfl) ?_
 have l1 : ∀ q ∈ zsStore (⟨⟨⟨a0, a1⟩, a6, a7, a3, a4, a5, a2⟩, b9⟩ : GStore), q ≤ 1048576 := fun q hq => hz q (by simp only [zsServer, List.mem_append]; simp only [hq, true_or, or_true])
 have f3 : ∀ q ∈ zsLog (⟨⟨a0, a1⟩, a6, a7, a3, a4, a5, a2⟩ : GLog), q ≤ 1048576 := fun q hq => l1 q (by simp only [zsStore, List.mem_append]; simp only [hq, true_or, or_true])
 have d9 : ∀ q ∈ zsDisk (⟨a0, a1⟩ : GDisk), q ≤ 1048576 := fun q hq => f3 q (by simp only [zsLog, List.mem_append]; simp only [hq, true_or, or_true])
 have e0 : ∀ q ∈ zsStringS a0, q ≤ 1048576 := fun q hq => d9 q (by simp only [zsDisk, List.mem_append]; simp only [hq, true_or, or_true])
 have k5 : List.length a0 ≤ 1048576 := e0 _ (by simp [zsStringS])
 have e3 : ∀ q ∈ zsWriteS a1, q ≤ 1048576 := fun q hq => d9 q (by simp only [zsDisk, List.mem_append]; simp only [hq, true_or, or_true])
 have l3 : List.length a1 ≤ 1048576 := e3 _ (by simp [zsWriteS])
 have f6 : ∀ q ∈ zsSegS a7, q ≤ 1048576 := fun q hq => f3 q (by simp only [zsLog, List.mem_append]; simp only [hq, true_or, or_true])
 have n8 : List.length a7 ≤ 1048576 := f6 _ (by simp [zsSegS])
 have j1 : ∀ q ∈ zsIntS b9, q ≤ 1048576 := fun q hq => l1 q (by simp only [zsStore, List.mem_append]; simp only [hq, true_or, or_true])
 have o8 : List.length b9 ≤ 1048576 := j1 _ (by simp [zsIntS])
 have k9 : ∀ q ∈ zsSessionS c1, q ≤ 1048576 := fun q hq => hz q (by simp only [zsServer, List.mem_append]; simp only [hq, true_or, or_true])
 have p6 : List.length c1 ≤ 1048576 := k9 _ (by simp [zsSessionS])
 refine real tyOk Tryz.func15 (by kernel_rfl) (afun_of rfl ?_)
 refine gs (gr (ra hA 3 (by cbv) (od ?_)))
 refine gs (gr (ra hA 3 (by cbv) ?_))
 obtain ⟨r7, r9, t7, w2, hc2⟩ : ∃ (r7 : RR) (r9 : Bool), r7 = List.map eoSession (openL c1 k) ∧ r9 = (openB c1 k) ∧ Real Tryz.prog 41 [.sl 17 d4, .int .i64 k] (.tup [.ow 17 r7, .bool r9]) := ⟨_, _, rfl, rfl, by subst d5; exact r_impl_opened A hA c1 k (by assumption)⟩
 have y3 := rlen_map hA t7
 refine ops_callV rfl rfl (by cbv) (by cbv) hc2 (.inr rfl) (by cbv) ?_
 refine ra hA 5 (by cbv) (od ?_)
 refine gs (gr (ra hA 2 (by cbv) ?_))
 obtain ⟨j4, k8, n2, p0, n4, o4, p2, r3, hc4⟩ : ∃ (j4 : RR) (k8 : RR) (n2 : RR) (p0 : RR), j4 = List.map eString a0 ∧ k8 = List.map eoWrite a1 ∧ n2 = List.map eoSeg a7 ∧ p0 = List.map eInt b9 ∧ Real Tryz.prog 33 [.agg [.sl 1 d0, .sl 2 d2, .int .i64 a6, .sl 4 d6, .int .i64 a3, .int .i64 a4, .int .i64 a5, .int .i64 a2, .sl 1 e7]] (.agg [.ow 1 j4, .ow 2 k8, .int .i64 a6, .ow 4 n2, .int .i64 a3, .int .i64 a4, .int .i64 a5, .int .i64 a2, .ow 1 p0]) := ⟨_, _, _, _, rfl, rfl, rfl, rfl, by subst a8 b2 d1 d3; exact r_impl_cloneStore A hA (⟨⟨⟨a0, a1⟩, a6, a7, a3, a4, a5, a2⟩, b9⟩ : GStore) (by assumption)⟩
 have t9 := rlen_map hA n4
 have u5 := rlen_map hA o4
 have w5 := rlen_map hA p2
 have x1 := rlen_map hA r3
 refine ops_callV rfl rfl (by cbv) (by cbv) hc4 (.inr rfl) (by cbv) ?_
 refine ra hA 5 (by cbv) (od ?_)
 refine go_ret ⟨_, by cbv, ?_⟩
 show _ = PV.tup [.agg [.ow 1 j4, .ow 2 k8, .int .i64 a6, .ow 4 n2, .int .i64 a3, .int .i64 a4, .int .i64 a5, .int .i64 a2, .ow 1 p0, .ow 17 r7], .bool r9]
 simp only [t7, w2, n4, o4, p2, r3]
 rfl
theorem r_impl_FeedAt (A : Alg) (hA : A = std) (v : GServer) (i : Int) (t : ByteArray) (hz : ∀ q ∈ zsServer v, q ≤ 1048576) (ht : ByteArray.size t ≤ 1048576) : Real Tryz.prog 10 [.agg (eServer v), .int .i64 i, .str t] (.tup [.agg (eoServer ⟨v.Store, fedL v.Sessions i t⟩), .bool (fedB v.Sessions i t)]) := by
 obtain ⟨⟨⟨⟨a0, a1⟩, a6, a7, a3, a4, a5, a2⟩, b9⟩, c1⟩ := v
 obtain ⟨d0, a8⟩ := nm (a0.map eString)
 have k0 := rlen_map hA a8
 obtain ⟨d2, b2⟩ := nm (a1.map eWrite)
 have k6 := rlen_map hA b2
 obtain ⟨d6, d1⟩ := nm (a7.map eSeg)
 have m6 := rlen_map hA d1
 obtain ⟨e7, d3⟩ := nm (b9.map eInt)
 have o0 := rlen_map hA d3
 obtain ⟨d4, d5⟩ := nm (c1.map eSession)
 have n9 := rlen_map hA d5
 refine real_args (args' := [.agg [.sl 1 d0, .sl 2 d2, .int .i64 a6, .sl 4 d6, .int .i64 a3, .int .i64 a4, .int .i64 a5, .int .i64 a2, .sl 1 e7, .sl 17 d4], .int .i64 i, .str t]) (by subst a8 b2 d1 d3 d5; rfl) ?_
 have l1 : ∀ q ∈ zsStore (⟨⟨⟨a0, a1⟩, a6, a7, a3, a4, a5, a2⟩, b9⟩ : GStore), q ≤ 1048576 := fun q hq => hz q (by simp only [zsServer, List.mem_append]; simp only [hq, true_or, or_true])
 have f3 : ∀ q ∈ zsLog (⟨⟨a0, a1⟩, a6, a7, a3, a4, a5, a2⟩ : GLog), q ≤ 1048576 := fun q hq => l1 q (by simp only [zsStore, List.mem_append]; simp only [hq, true_or, or_true])
 have d9 : ∀ q ∈ zsDisk (⟨a0, a1⟩ : GDisk), q ≤ 1048576 := fun q hq => f3 q (by simp only [zsLog, List.mem_append]; simp only [hq, true_or, or_true])
 have e0 : ∀ q ∈ zsStringS a0, q ≤ 1048576 := fun q hq => d9 q (by simp only [zsDisk, List.mem_append]; simp only [hq, true_or, or_true])
 have k5 : List.length a0 ≤ 1048576 := e0 _ (by simp [zsStringS])
 have e3 : ∀ q ∈ zsWriteS a1, q ≤ 1048576 := fun q hq => d9 q (by simp only [zsDisk, List.mem_append]; simp only [hq, true_or, or_true])
 have l3 : List.length a1 ≤ 1048576 := e3 _ (by simp [zsWriteS])
 have f6 : ∀ q ∈ zsSegS a7, q ≤ 1048576 := fun q hq => f3 q (by simp only [zsLog, List.mem_append]; simp only [hq, true_or, or_true])
 have n8 : List.length a7 ≤ 1048576 := f6 _ (by simp [zsSegS])
 have j1 : ∀ q ∈ zsIntS b9, q ≤ 1048576 := fun q hq => l1 q (by simp only [zsStore, List.mem_append]; simp only [hq, true_or, or_true])
 have o8 : List.length b9 ≤ 1048576 := j1 _ (by simp [zsIntS])
 have k9 : ∀ q ∈ zsSessionS c1, q ≤ 1048576 := fun q hq => hz q (by simp only [zsServer, List.mem_append]; simp only [hq, true_or, or_true])
 have p6 : List.length c1 ≤ 1048576 := k9 _ (by simp [zsSessionS])
 refine real tyOk Tryz.func10 (by kernel_rfl) (afun_of rfl ?_)
 refine gs (gr (ra hA 3 (by cbv) (od ?_)))
 refine gs (gr (ra hA 4 (by cbv) ?_))
 obtain ⟨r8, s0, t5, w0, hc2⟩ : ∃ (r8 : RR) (s0 : Bool), r8 = List.map eoSession (fedL c1 i t) ∧ s0 = (fedB c1 i t) ∧ Real Tryz.prog 32 [.sl 17 d4, .int .i64 i, .str t] (.tup [.ow 17 r8, .bool s0]) := ⟨_, _, rfl, rfl, by subst d5; exact r_impl_fed A hA c1 i t (by assumption) (by assumption)⟩
 have x6 := rlen_map hA t5
 refine ops_callV rfl rfl (by cbv) (by cbv) hc2 (.inr rfl) (by cbv) ?_
 refine ra hA 5 (by cbv) (od ?_)
 refine gs (gr (ra hA 2 (by cbv) ?_))
 obtain ⟨j5, k7, n0, o9, n3, o3, p4, r5, hc4⟩ : ∃ (j5 : RR) (k7 : RR) (n0 : RR) (o9 : RR), j5 = List.map eString a0 ∧ k7 = List.map eoWrite a1 ∧ n0 = List.map eoSeg a7 ∧ o9 = List.map eInt b9 ∧ Real Tryz.prog 33 [.agg [.sl 1 d0, .sl 2 d2, .int .i64 a6, .sl 4 d6, .int .i64 a3, .int .i64 a4, .int .i64 a5, .int .i64 a2, .sl 1 e7]] (.agg [.ow 1 j5, .ow 2 k7, .int .i64 a6, .ow 4 n0, .int .i64 a3, .int .i64 a4, .int .i64 a5, .int .i64 a2, .ow 1 o9]) := ⟨_, _, _, _, rfl, rfl, rfl, rfl, by subst a8 b2 d1 d3; exact r_impl_cloneStore A hA (⟨⟨⟨a0, a1⟩, a6, a7, a3, a4, a5, a2⟩, b9⟩ : GStore) (by assumption)⟩
 have t8 := rlen_map hA n3
 have u4 := rlen_map hA o3
 have w6 := rlen_map hA p4
 have x3 := rlen_map hA r5
 refine ops_callV rfl rfl (by cbv) (by cbv) hc4 (.inr rfl) (by cbv) ?_
 refine ra hA 5 (by cbv) (od ?_)
 refine go_ret ⟨_, by cbv, ?_⟩
 show _ = PV.tup [.agg [.ow 1 j5, .ow 2 k7, .int .i64 a6, .ow 4 n0, .int .i64 a3, .int .i64 a4, .int .i64 a5, .int .i64 a2, .ow 1 o9, .ow 17 r8], .bool s0]
 simp only [t5, w0, n3, o3, p4, r5]
 rfl
theorem r_spec_OpenAt (A : Alg) (hA : A = std) (v : GServer) (k : Int) (hz : ∀ q ∈ zsServer v, q ≤ 1048576) : Real Tryz.prog 14 [.agg (eServer v), .int .i64 k] (.tup [.agg (eoServer ⟨v.Store, openL v.Sessions k⟩), .bool (openB v.Sessions k)]) := by
 obtain ⟨⟨⟨⟨a0, a1⟩, a6, a7, a3, a4, a5, a2⟩, b9⟩, c1⟩ := v
 obtain ⟨d0, a8⟩ := nm (a0.map eString)
 have k0 := rlen_map hA a8
 obtain ⟨d2, b2⟩ := nm (a1.map eWrite)
 have k6 := rlen_map hA b2
 obtain ⟨d6, d1⟩ := nm (a7.map eSeg)
 have m6 := rlen_map hA d1
 obtain ⟨e7, d3⟩ := nm (b9.map eInt)
 have o0 := rlen_map hA d3
 obtain ⟨d4, d5⟩ := nm (c1.map eSession)
 have n9 := rlen_map hA d5
 refine real_args (args' := [.agg [.sl 1 d0, .sl 2 d2, .int .i64 a6, .sl 4 d6, .int .i64 a3, .int .i64 a4, .int .i64 a5, .int .i64 a2, .sl 1 e7, .sl 17 d4], .int .i64 k]) (by subst a8 b2 d1 d3 d5; rfl) ?_
 have l1 : ∀ q ∈ zsStore (⟨⟨⟨a0, a1⟩, a6, a7, a3, a4, a5, a2⟩, b9⟩ : GStore), q ≤ 1048576 := fun q hq => hz q (by simp only [zsServer, List.mem_append]; simp only [hq, true_or, or_true])
 have f3 : ∀ q ∈ zsLog (⟨⟨a0, a1⟩, a6, a7, a3, a4, a5, a2⟩ : GLog), q ≤ 1048576 := fun q hq => l1 q (by simp only [zsStore, List.mem_append]; simp only [hq, true_or, or_true])
 have d9 : ∀ q ∈ zsDisk (⟨a0, a1⟩ : GDisk), q ≤ 1048576 := fun q hq => f3 q (by simp only [zsLog, List.mem_append]; simp only [hq, true_or, or_true])
 have e0 : ∀ q ∈ zsStringS a0, q ≤ 1048576 := fun q hq => d9 q (by simp only [zsDisk, List.mem_append]; simp only [hq, true_or, or_true])
 have k5 : List.length a0 ≤ 1048576 := e0 _ (by simp [zsStringS])
 have e3 : ∀ q ∈ zsWriteS a1, q ≤ 1048576 := fun q hq => d9 q (by simp only [zsDisk, List.mem_append]; simp only [hq, true_or, or_true])
 have l3 : List.length a1 ≤ 1048576 := e3 _ (by simp [zsWriteS])
 have f6 : ∀ q ∈ zsSegS a7, q ≤ 1048576 := fun q hq => f3 q (by simp only [zsLog, List.mem_append]; simp only [hq, true_or, or_true])
 have n8 : List.length a7 ≤ 1048576 := f6 _ (by simp [zsSegS])
 have j1 : ∀ q ∈ zsIntS b9, q ≤ 1048576 := fun q hq => l1 q (by simp only [zsStore, List.mem_append]; simp only [hq, true_or, or_true])
 have o8 : List.length b9 ≤ 1048576 := j1 _ (by simp [zsIntS])
 have k9 : ∀ q ∈ zsSessionS c1, q ≤ 1048576 := fun q hq => hz q (by simp only [zsServer, List.mem_append]; simp only [hq, true_or, or_true])
 have p6 : List.length c1 ≤ 1048576 := k9 _ (by simp [zsSessionS])
 refine real tyOk Tryz.func14 (by kernel_rfl) (afun_of rfl ?_)
 refine gs (gr (ra hA 3 (by cbv) (od ?_)))
 refine gs (gr (ra hA 1 (by cbv) ?_))
 obtain ⟨e2, e4, f5, i7, i2, e8, f1, i1, k2, i4, hc2⟩ : ∃ (e2 : RR) (e4 : RR) (f5 : RR) (i7 : RR) (i2 : RR), e2 = List.map eString a0 ∧ e4 = List.map eoWrite a1 ∧ f5 = List.map eoSeg a7 ∧ i7 = List.map eInt b9 ∧ i2 = List.map eoSession c1 ∧ Real Tryz.prog 27 [.agg [.sl 1 d0, .sl 2 d2, .int .i64 a6, .sl 4 d6, .int .i64 a3, .int .i64 a4, .int .i64 a5, .int .i64 a2, .sl 1 e7, .sl 17 d4]] (.agg [.ow 1 e2, .ow 2 e4, .int .i64 a6, .ow 4 f5, .int .i64 a3, .int .i64 a4, .int .i64 a5, .int .i64 a2, .ow 1 i7, .ow 17 i2]) := ⟨_, _, _, _, _, rfl, rfl, rfl, rfl, rfl, by subst a8 b2 d1 d3 d5; exact r_spec_l23Copy A hA (⟨⟨⟨⟨a0, a1⟩, a6, a7, a3, a4, a5, a2⟩, b9⟩, c1⟩ : GServer) (by assumption)⟩
 have s4 := rlen_map hA e8
 have s7 := rlen_map hA f1
 have u2 := rlen_map hA i1
 have v3 := rlen_map hA k2
 have w7 := rlen_map hA i4
 refine ops_callV rfl rfl (by cbv) (by cbv) hc2 (.inr rfl) (by cbv) ?_
 refine ra hA 2 (by cbv) (od ?_)
 refine gs (gr (ra hA 1 (by cbv) ?_))
 obtain ⟨l4, n1, m0, l6, g0, g1, l2, j7, f7, g4, j0, j6, g3, i8, j3, g9, k3, p8, s8, u1, t4, t0, q2, q7, n7, m3, p9, q5, l8, m5, q9, r4, s2, r2, m7, q1, hc4⟩ : ∃ (l4 : Int) (n1 : ByteArray) (m0 : ByteArray) (l6 : Bool) (g0 : Int) (g1 : ByteArray) (l2 : RR) (j7 : RR) (f7 : Int) (g4 : ByteArray) (j0 : RR) (j6 : RR) (g3 : Int) (i8 : ByteArray) (j3 : ByteArray) (g9 : Int) (k3 : RR) (p8 : Bool), l4 = ((sesNew k).Kind) ∧ n1 = ((sesNew k).In) ∧ m0 = ((sesNew k).Out) ∧ l6 = ((sesNew k).Over) ∧ g0 = (((sesNew k).Bring).State) ∧ g1 = (((sesNew k).Bring).From) ∧ l2 = List.map eString (((sesNew k).Bring).To) ∧ j7 = List.map eString (((sesNew k).Bring).Data) ∧ f7 = (((sesNew k).Fetch).State) ∧ g4 = (((sesNew k).Fetch).User) ∧ j0 = List.map eoMail (((sesNew k).Fetch).Mails) ∧ j6 = List.map eBool (((sesNew k).Fetch).Gone) ∧ g3 = (((sesNew k).Look).State) ∧ i8 = (((sesNew k).Look).User) ∧ j3 = (((sesNew k).Look).Box) ∧ g9 = (((sesNew k).Look).Valid) ∧ k3 = List.map eInt (((sesNew k).Look).Uids) ∧ p8 = (sesOk k) ∧ Real Tryz.prog 40 [.int .i64 k] (.tup [.agg [.int .i64 l4, .str n1, .str m0, .bool l6, .int .i64 g0, .str g1, .ow 1 l2, .ow 1 j7, .int .i64 f7, .str g4, .ow 3 j0, .ow 1 j6, .int .i64 g3, .str i8, .str j3, .int .i64 g9, .ow 1 k3], .bool p8]) := ⟨_, _, _, _, _, _, _, _, _, _, _, _, _, _, _, _, _, _, rfl, rfl, rfl, rfl, rfl, rfl, rfl, rfl, rfl, rfl, rfl, rfl, rfl, rfl, rfl, rfl, rfl, rfl, by exact r_spec_SessionNew A hA k ⟩
 have v7 := rlen_map hA n7
 have v1 := rlen_map hA m3
 have u6 := rlen_map hA l8
 have v0 := rlen_map hA m5
 have v2 := rlen_map hA m7
 refine ops_callV rfl rfl (by cbv) (by cbv) hc4 (.inr rfl) (by cbv) ?_
 refine ra hA 6 (by cbv) (od ?_)
 refine gs (gs (gr (ra hA 3 (by cbv) ?_)))
 refine ops_split 18 rfl (fun c5 => ?_) (fun c5 => ?_)
 ·
  have c6 : p8 = false := bnot_t hA c5
  refine ra hA 5 (by cbv) (od ?_)
  refine go_cond rfl (fun c7 => ?_) (fun c7 => ?_)
  ·
   refine gs (gr (ra hA 3 (by cbv) (od ?_)))
   refine go_ret ⟨_, by cbv, ?_⟩
   show _ = PV.tup [.agg [.ow 1 e2, .ow 2 e4, .int .i64 a6, .ow 4 f5, .int .i64 a3, .int .i64 a4, .int .i64 a5, .int .i64 a2, .ow 1 i7, .ow 17 i2], .bool false]
   have E : openB c1 k = false := by
    simp only [openB, Bool.and_eq_false_iff, decide_eq_false_iff_not]
    first | exact .inl (by first | (rw [← q1]; assumption) | assumption) | exact .inr (by omega)
   simp only [openL, E, if_neg (show ¬ (false = true) by decide), e8, f1, i1, k2, i4]
   rfl
  ·
   exact no_f c7 (show true = true from by rfl)
 ·
  have c8 : p8 = true := bnot_f hA c5
  refine ra hA 5 (by cbv) (od ?_)
  refine go_cond rfl (fun c9 => ?_) (fun c9 => ?_)
  ·
   have ec9 : 4 ≤ (A.rlen d4) := geq_t hA c9
   refine gs (gr (ra hA 3 (by cbv) (od ?_)))
   refine go_ret ⟨_, by cbv, ?_⟩
   show _ = PV.tup [.agg [.ow 1 e2, .ow 2 e4, .int .i64 a6, .ow 4 f5, .int .i64 a3, .int .i64 a4, .int .i64 a5, .int .i64 a2, .ow 1 i7, .ow 17 i2], .bool false]
   have E : openB c1 k = false := by
    simp only [openB, Bool.and_eq_false_iff, decide_eq_false_iff_not]
    first | exact .inl (by first | (rw [← q1]; assumption) | assumption) | exact .inr (by omega)
   simp only [openL, E, if_neg (show ¬ (false = true) by decide), e8, f1, i1, k2, i4]
   rfl
  ·
   have ec9 : (A.rlen d4) < 4 := geq_f hA c9
   refine gk (gs (gr (ra hA 4 (by cbv) ?_)))
   obtain ⟨r10, x2⟩ := nm (i2 ++ [[.int .i64 l4, .str n1, .str m0, .bool l6, .int .i64 g0, .str g1, .ow 1 l2, .ow 1 j7, .int .i64 f7, .str g4, .ow 3 j0, .ow 1 j6, .int .i64 g3, .str i8, .str j3, .int .i64 g9, .ow 1 k3]] : RR)
   have w9 : r10 = List.map eoSession (c1 ++ ([(⟨l4, n1, m0, l6, ⟨g0, g1, ((sesNew k).Bring).To, ((sesNew k).Bring).Data⟩, ⟨f7, g4, ((sesNew k).Fetch).Mails, ((sesNew k).Fetch).Gone⟩, ⟨g3, i8, j3, g9, ((sesNew k).Look).Uids⟩⟩ : GSession)])) := by rw [x2]; exact app_eq i4 (by simp only [n7, m3, l8, m5, m7]; rfl)
   have y5 := rlen_map hA w9
   refine ops_step rfl rfl (app_own rfl rfl rfl rfl rfl rfl rfl rfl x2 (by cbv) (by cbv) (by cbv) rfl (by
    show (List.length i2 + List.length ([[.int .i64 l4, .str n1, .str m0, .bool l6, .int .i64 g0, .str g1, .ow 1 l2, .ow 1 j7, .int .i64 f7, .str g4, .ow 3 j0, .ow 1 j6, .int .i64 g3, .str i8, .str j3, .int .i64 g9, .ow 1 k3]])) * _ ≤ _
    show (List.length i2 + 1) * 264 ≤ _
    rw [i4, List.length_map]; omega) (by decide) (by decide)) ?_
   refine ra hA 2 (by cbv) (od ?_)
   refine gs (gr (ra hA 3 (by cbv) (od ?_)))
   refine go_ret ⟨_, by cbv, ?_⟩
   show _ = PV.tup [.agg [.ow 1 e2, .ow 2 e4, .int .i64 a6, .ow 4 f5, .int .i64 a3, .int .i64 a4, .int .i64 a5, .int .i64 a2, .ow 1 i7, .ow 17 r10], .bool true]
   have E : openB c1 k = true := by
    simp only [openB, Bool.and_eq_true, decide_eq_true_eq]
    exact ⟨by first | (rw [← q1]; assumption) | assumption, by omega⟩
   simp only [openL, E, if_pos, e8, f1, i1, k2, i4, w9]
   subst q1 m7 r2 s2 r4 q9 m5 l8 q5 p9 m3 n7 q7 q2 t0 t4 u1 s8 i4 k2 i1 f1 e8
   rfl
theorem r_spec_FeedAt (A : Alg) (hA : A = std) (v : GServer) (i : Int) (t : ByteArray) (hz : ∀ q ∈ zsServer v, q ≤ 1048576) (ht : ByteArray.size t ≤ 1048576) : Real Tryz.prog 8 [.agg (eServer v), .int .i64 i, .str t] (.tup [.agg (eoServer ⟨v.Store, fedL v.Sessions i t⟩), .bool (fedB v.Sessions i t)]) := by
 obtain ⟨⟨⟨⟨a0, a1⟩, a6, a7, a3, a4, a5, a2⟩, b9⟩, c1⟩ := v
 obtain ⟨d0, a8⟩ := nm (a0.map eString)
 have k0 := rlen_map hA a8
 obtain ⟨d2, b2⟩ := nm (a1.map eWrite)
 have k6 := rlen_map hA b2
 obtain ⟨d6, d1⟩ := nm (a7.map eSeg)
 have m6 := rlen_map hA d1
 obtain ⟨e7, d3⟩ := nm (b9.map eInt)
 have o0 := rlen_map hA d3
 obtain ⟨d4, d5⟩ := nm (c1.map eSession)
 have n9 := rlen_map hA d5
 refine real_args (args' := [.agg [.sl 1 d0, .sl 2 d2, .int .i64 a6, .sl 4 d6, .int .i64 a3, .int .i64 a4, .int .i64 a5, .int .i64 a2, .sl 1 e7, .sl 17 d4], .int .i64 i, .str t]) (by subst a8 b2 d1 d3 d5; rfl) ?_
 have l1 : ∀ q ∈ zsStore (⟨⟨⟨a0, a1⟩, a6, a7, a3, a4, a5, a2⟩, b9⟩ : GStore), q ≤ 1048576 := fun q hq => hz q (by simp only [zsServer, List.mem_append]; simp only [hq, true_or, or_true])
 have f3 : ∀ q ∈ zsLog (⟨⟨a0, a1⟩, a6, a7, a3, a4, a5, a2⟩ : GLog), q ≤ 1048576 := fun q hq => l1 q (by simp only [zsStore, List.mem_append]; simp only [hq, true_or, or_true])
 have d9 : ∀ q ∈ zsDisk (⟨a0, a1⟩ : GDisk), q ≤ 1048576 := fun q hq => f3 q (by simp only [zsLog, List.mem_append]; simp only [hq, true_or, or_true])
 have e0 : ∀ q ∈ zsStringS a0, q ≤ 1048576 := fun q hq => d9 q (by simp only [zsDisk, List.mem_append]; simp only [hq, true_or, or_true])
 have k5 : List.length a0 ≤ 1048576 := e0 _ (by simp [zsStringS])
 have e3 : ∀ q ∈ zsWriteS a1, q ≤ 1048576 := fun q hq => d9 q (by simp only [zsDisk, List.mem_append]; simp only [hq, true_or, or_true])
 have l3 : List.length a1 ≤ 1048576 := e3 _ (by simp [zsWriteS])
 have f6 : ∀ q ∈ zsSegS a7, q ≤ 1048576 := fun q hq => f3 q (by simp only [zsLog, List.mem_append]; simp only [hq, true_or, or_true])
 have n8 : List.length a7 ≤ 1048576 := f6 _ (by simp [zsSegS])
 have j1 : ∀ q ∈ zsIntS b9, q ≤ 1048576 := fun q hq => l1 q (by simp only [zsStore, List.mem_append]; simp only [hq, true_or, or_true])
 have o8 : List.length b9 ≤ 1048576 := j1 _ (by simp [zsIntS])
 have k9 : ∀ q ∈ zsSessionS c1, q ≤ 1048576 := fun q hq => hz q (by simp only [zsServer, List.mem_append]; simp only [hq, true_or, or_true])
 have p6 : List.length c1 ≤ 1048576 := k9 _ (by simp [zsSessionS])
 refine real tyOk Tryz.func8 (by kernel_rfl) (afun_of rfl ?_)
 refine gs (gr (ra hA 3 (by cbv) (od ?_)))
 refine gs (gr (ra hA 1 (by cbv) ?_))
 obtain ⟨e1, e5, f4, i5, g7, e9, f0, g8, j8, i3, hc2⟩ : ∃ (e1 : RR) (e5 : RR) (f4 : RR) (i5 : RR) (g7 : RR), e1 = List.map eString a0 ∧ e5 = List.map eoWrite a1 ∧ f4 = List.map eoSeg a7 ∧ i5 = List.map eInt b9 ∧ g7 = List.map eoSession c1 ∧ Real Tryz.prog 27 [.agg [.sl 1 d0, .sl 2 d2, .int .i64 a6, .sl 4 d6, .int .i64 a3, .int .i64 a4, .int .i64 a5, .int .i64 a2, .sl 1 e7, .sl 17 d4]] (.agg [.ow 1 e1, .ow 2 e5, .int .i64 a6, .ow 4 f4, .int .i64 a3, .int .i64 a4, .int .i64 a5, .int .i64 a2, .ow 1 i5, .ow 17 g7]) := ⟨_, _, _, _, _, rfl, rfl, rfl, rfl, rfl, by subst a8 b2 d1 d3 d5; exact r_spec_l23Copy A hA (⟨⟨⟨⟨a0, a1⟩, a6, a7, a3, a4, a5, a2⟩, b9⟩, c1⟩ : GServer) (by assumption)⟩
 have s5 := rlen_map hA e9
 have s6 := rlen_map hA f0
 have u3 := rlen_map hA g8
 have v4 := rlen_map hA j8
 have w3 := rlen_map hA i3
 refine ops_callV rfl rfl (by cbv) (by cbv) hc2 (.inr rfl) (by cbv) ?_
 refine ra hA 2 (by cbv) (od ?_)
 refine gs (gs ?_)
 have wsub : A.num .sub .i64 (A.rlen d4) 1 = (List.length c1 : Int) - 1 := by rw [n9]; exact sub_i64 hA (by omega) (by omega)
 refine gr (ra hA 5 (by cbv) ?_)
 obtain ⟨s3, t6, hc4⟩ : ∃ (s3 : Bool), s3 = (inR i 0 (A.num .sub .i64 (A.rlen d4) 1)) ∧ Real Tryz.prog 28 [.int .i64 i, .int .i64 0, .int .i64 (A.num .sub .i64 (A.rlen d4) 1)] (.bool s3) := ⟨_, rfl, by exact r_spec_l01In A hA i 0 (A.num .sub .i64 (A.rlen d4) 1) ⟩
 refine ops_callV rfl rfl (by cbv) (by cbv) hc4 (.inr rfl) (by cbv) ?_
 refine ra hA 1 (by cbv) (od ?_)
 refine go_cond rfl (fun c5 => ?_) (fun c5 => ?_)
 ·
  have c6 : s3 = false := bnot_t hA c5
  refine gs (gr (ra hA 3 (by cbv) (od ?_)))
  refine go_ret ⟨_, by cbv, ?_⟩
  show _ = PV.tup [.agg [.ow 1 e1, .ow 2 e5, .int .i64 a6, .ow 4 f4, .int .i64 a3, .int .i64 a4, .int .i64 a5, .int .i64 a2, .ow 1 i5, .ow 17 g7], .bool false]
  have hin := c6
  rw [t6] at hin
  simp only [inR, wsub, Bool.and_eq_false_iff, decide_eq_false_iff_not] at hin
  have E := fedB_none (t := t) hin
  simp only [fedL_no E, E, e9, f0, g8, j8, i3]
  rfl
 ·
  have c7 : s3 = true := bnot_f hA c5
  refine gk (gs ?_)
  have hin := c7
  rw [t6] at hin
  simp only [inR, wsub, Bool.and_eq_true, decide_eq_true_eq] at hin
  refine gr (ra hA 3 (by cbv) ?_)
  have x9 : (0 : Int) ≤ i := by
   omega
  have x7 : (Int.toNat i) < List.length c1 := by
   omega
  obtain ⟨x8, hx8⟩ : ∃ x, (c1)[(Int.toNat i)]? = some x := ⟨_, List.getElem?_eq_getElem x7⟩
  have y0 := List.mem_of_getElem? hx8
  obtain ⟨d7, f2, e6, d8, ⟨a9, b4, c4, b8⟩, ⟨b0, b5, b1, b7⟩, ⟨b3, c0, c3, b6, c2⟩⟩ := x8
  obtain ⟨q4, o6⟩ := nm (c4.map eString)
  have w8 := rlen_map hA o6
  obtain ⟨p3, o2⟩ := nm (b8.map eString)
  have w1 := rlen_map hA o2
  obtain ⟨p1, n6⟩ := nm (b1.map eMail)
  have v6 := rlen_map hA n6
  obtain ⟨p5, o1⟩ := nm (b7.map eBool)
  have v9 := rlen_map hA o1
  obtain ⟨p7, o5⟩ := nm (c2.map eInt)
  have w4 := rlen_map hA o5
  have y2 : d4[(Int.toNat i)]? = some [.int .i64 d7, .str f2, .str e6, .bool d8, .int .i64 a9, .str b4, .sl 1 q4, .sl 1 p3, .int .i64 b0, .str b5, .sl 3 p1, .sl 1 p5, .int .i64 b3, .str c0, .str c3, .int .i64 b6, .sl 1 p7] := by
   subst o6 o2 n6 o1 o5; exact map_at eSession d5 hx8
  have zS : ∀ q ∈ zsSession (⟨d7, f2, e6, d8, ⟨a9, b4, c4, b8⟩, ⟨b0, b5, b1, b7⟩, ⟨b3, c0, c3, b6, c2⟩⟩ : GSession), q ≤ 1048576 := fun q hq => k9 q (List.mem_cons_of_mem _ (List.mem_flatMap.2 ⟨_, y0, hq⟩))
  refine ops_step rfl rfl (idx_sl rfl rfl rfl rfl rfl x9 rfl y2) ?_
  refine ra hA 2 (by cbv) ?_
  obtain ⟨l7, m9, m1, l5, f8, g2, l0, j9, f9, g6, i9, k1, i0, i6, j2, g5, k4, o7, t1, u0, t2, s9, q3, q6, n5, m2, q0, r0, l9, m4, r1, r6, s1, q8, m8, t3, y4⟩ : ∃ (l7 : Int) (m9 : ByteArray) (m1 : ByteArray) (l5 : Bool) (f8 : Int) (g2 : ByteArray) (l0 : RR) (j9 : RR) (f9 : Int) (g6 : ByteArray) (i9 : RR) (k1 : RR) (i0 : Int) (i6 : ByteArray) (j2 : ByteArray) (g5 : Int) (k4 : RR) (o7 : Bool), l7 = ((feedS (⟨d7, f2, e6, d8, ⟨a9, b4, c4, b8⟩, ⟨b0, b5, b1, b7⟩, ⟨b3, c0, c3, b6, c2⟩⟩ : GSession) t).Kind) ∧ m9 = ((feedS (⟨d7, f2, e6, d8, ⟨a9, b4, c4, b8⟩, ⟨b0, b5, b1, b7⟩, ⟨b3, c0, c3, b6, c2⟩⟩ : GSession) t).In) ∧ m1 = ((feedS (⟨d7, f2, e6, d8, ⟨a9, b4, c4, b8⟩, ⟨b0, b5, b1, b7⟩, ⟨b3, c0, c3, b6, c2⟩⟩ : GSession) t).Out) ∧ l5 = ((feedS (⟨d7, f2, e6, d8, ⟨a9, b4, c4, b8⟩, ⟨b0, b5, b1, b7⟩, ⟨b3, c0, c3, b6, c2⟩⟩ : GSession) t).Over) ∧ f8 = (((feedS (⟨d7, f2, e6, d8, ⟨a9, b4, c4, b8⟩, ⟨b0, b5, b1, b7⟩, ⟨b3, c0, c3, b6, c2⟩⟩ : GSession) t).Bring).State) ∧ g2 = (((feedS (⟨d7, f2, e6, d8, ⟨a9, b4, c4, b8⟩, ⟨b0, b5, b1, b7⟩, ⟨b3, c0, c3, b6, c2⟩⟩ : GSession) t).Bring).From) ∧ l0 = List.map eString (((feedS (⟨d7, f2, e6, d8, ⟨a9, b4, c4, b8⟩, ⟨b0, b5, b1, b7⟩, ⟨b3, c0, c3, b6, c2⟩⟩ : GSession) t).Bring).To) ∧ j9 = List.map eString (((feedS (⟨d7, f2, e6, d8, ⟨a9, b4, c4, b8⟩, ⟨b0, b5, b1, b7⟩, ⟨b3, c0, c3, b6, c2⟩⟩ : GSession) t).Bring).Data) ∧ f9 = (((feedS (⟨d7, f2, e6, d8, ⟨a9, b4, c4, b8⟩, ⟨b0, b5, b1, b7⟩, ⟨b3, c0, c3, b6, c2⟩⟩ : GSession) t).Fetch).State) ∧ g6 = (((feedS (⟨d7, f2, e6, d8, ⟨a9, b4, c4, b8⟩, ⟨b0, b5, b1, b7⟩, ⟨b3, c0, c3, b6, c2⟩⟩ : GSession) t).Fetch).User) ∧ i9 = List.map eoMail (((feedS (⟨d7, f2, e6, d8, ⟨a9, b4, c4, b8⟩, ⟨b0, b5, b1, b7⟩, ⟨b3, c0, c3, b6, c2⟩⟩ : GSession) t).Fetch).Mails) ∧ k1 = List.map eBool (((feedS (⟨d7, f2, e6, d8, ⟨a9, b4, c4, b8⟩, ⟨b0, b5, b1, b7⟩, ⟨b3, c0, c3, b6, c2⟩⟩ : GSession) t).Fetch).Gone) ∧ i0 = (((feedS (⟨d7, f2, e6, d8, ⟨a9, b4, c4, b8⟩, ⟨b0, b5, b1, b7⟩, ⟨b3, c0, c3, b6, c2⟩⟩ : GSession) t).Look).State) ∧ i6 = (((feedS (⟨d7, f2, e6, d8, ⟨a9, b4, c4, b8⟩, ⟨b0, b5, b1, b7⟩, ⟨b3, c0, c3, b6, c2⟩⟩ : GSession) t).Look).User) ∧ j2 = (((feedS (⟨d7, f2, e6, d8, ⟨a9, b4, c4, b8⟩, ⟨b0, b5, b1, b7⟩, ⟨b3, c0, c3, b6, c2⟩⟩ : GSession) t).Look).Box) ∧ g5 = (((feedS (⟨d7, f2, e6, d8, ⟨a9, b4, c4, b8⟩, ⟨b0, b5, b1, b7⟩, ⟨b3, c0, c3, b6, c2⟩⟩ : GSession) t).Look).Valid) ∧ k4 = List.map eInt (((feedS (⟨d7, f2, e6, d8, ⟨a9, b4, c4, b8⟩, ⟨b0, b5, b1, b7⟩, ⟨b3, c0, c3, b6, c2⟩⟩ : GSession) t).Look).Uids) ∧ o7 = (feedOk (⟨d7, f2, e6, d8, ⟨a9, b4, c4, b8⟩, ⟨b0, b5, b1, b7⟩, ⟨b3, c0, c3, b6, c2⟩⟩ : GSession) t) ∧ Real Tryz.prog 29 [.agg [.int .i64 d7, .str f2, .str e6, .bool d8, .int .i64 a9, .str b4, .sl 1 q4, .sl 1 p3, .int .i64 b0, .str b5, .sl 3 p1, .sl 1 p5, .int .i64 b3, .str c0, .str c3, .int .i64 b6, .sl 1 p7], .str t] (.tup [.agg [.int .i64 l7, .str m9, .str m1, .bool l5, .int .i64 f8, .str g2, .ow 1 l0, .ow 1 j9, .int .i64 f9, .str g6, .ow 3 i9, .ow 1 k1, .int .i64 i0, .str i6, .str j2, .int .i64 g5, .ow 1 k4], .bool o7]) := ⟨_, _, _, _, _, _, _, _, _, _, _, _, _, _, _, _, _, _, rfl, rfl, rfl, rfl, rfl, rfl, rfl, rfl, rfl, rfl, rfl, rfl, rfl, rfl, rfl, rfl, rfl, rfl, by subst o6 o2 n6 o1 o5; exact r_spec_FeedSession A hA (⟨d7, f2, e6, d8, ⟨a9, b4, c4, b8⟩, ⟨b0, b5, b1, b7⟩, ⟨b3, c0, c3, b6, c2⟩⟩ : GSession) t (by assumption) (by assumption)⟩
  have v8 := rlen_map hA n5
  have u9 := rlen_map hA m2
  have u7 := rlen_map hA l9
  have u8 := rlen_map hA m4
  have v5 := rlen_map hA m8
  refine ops_callV rfl rfl (by cbv) (by cbv) y4 (.inr rfl) (by cbv) ?_
  refine ra hA 6 (by cbv) (od ?_)
  refine gs (gs (gr (ra hA 1 (by cbv) (od ?_))))
  refine go_cond rfl (fun c11 => ?_) (fun c11 => ?_)
  ·
   refine gr (ra hA 4 (by cbv) ?_)
   have x4 : i < (List.length g7 : Int) := by
    rw [i3, List.length_map]; omega
   refine ops_step rfl rfl (idx_own rfl rfl rfl rfl rfl rfl (by omega) x4 rfl) ?_
   have x5 : g7[Int.toNat i]? = some (eoSession (⟨d7, f2, e6, d8, ⟨a9, b4, c4, b8⟩, ⟨b0, b5, b1, b7⟩, ⟨b3, c0, c3, b6, c2⟩⟩ : GSession)) := by
    rw [i3, List.getElem?_map, hx8]; rfl
   obtain ⟨w13, x0⟩ := nm (List.set g7 (Int.toNat i) [.int .i64 l7, .str m9, .str m1, .bool l5, .int .i64 f8, .str g2, .ow 1 l0, .ow 1 j9, .int .i64 f9, .str g6, .ow 3 i9, .ow 1 k1, .int .i64 i0, .str i6, .str j2, .int .i64 g5, .ow 1 k4] : RR)
   have y1 : w13 = List.map eoSession (List.set c1 (Int.toNat i) (⟨l7, m9, m1, l5, ⟨f8, g2, ((feedS (⟨d7, f2, e6, d8, ⟨a9, b4, c4, b8⟩, ⟨b0, b5, b1, b7⟩, ⟨b3, c0, c3, b6, c2⟩⟩ : GSession) t).Bring).To, ((feedS (⟨d7, f2, e6, d8, ⟨a9, b4, c4, b8⟩, ⟨b0, b5, b1, b7⟩, ⟨b3, c0, c3, b6, c2⟩⟩ : GSession) t).Bring).Data⟩, ⟨f9, g6, ((feedS (⟨d7, f2, e6, d8, ⟨a9, b4, c4, b8⟩, ⟨b0, b5, b1, b7⟩, ⟨b3, c0, c3, b6, c2⟩⟩ : GSession) t).Fetch).Mails, ((feedS (⟨d7, f2, e6, d8, ⟨a9, b4, c4, b8⟩, ⟨b0, b5, b1, b7⟩, ⟨b3, c0, c3, b6, c2⟩⟩ : GSession) t).Fetch).Gone⟩, ⟨i0, i6, j2, g5, ((feedS (⟨d7, f2, e6, d8, ⟨a9, b4, c4, b8⟩, ⟨b0, b5, b1, b7⟩, ⟨b3, c0, c3, b6, c2⟩⟩ : GSession) t).Look).Uids⟩⟩ : GSession)) := by
    rw [x0, i3, List.map_set]
    refine congrArg (List.set _ _) ?_
    simp only [n5, m2, l9, m4, m8]; rfl
   refine ops_step rfl rfl (sto_arr (r := eoSession (⟨d7, f2, e6, d8, ⟨a9, b4, c4, b8⟩, ⟨b0, b5, b1, b7⟩, ⟨b3, c0, c3, b6, c2⟩⟩ : GSession)) (cs := [.int .i64 l7, .str m9, .str m1, .bool l5, .int .i64 f8, .str g2, .ow 1 l0, .ow 1 j9, .int .i64 f9, .str g6, .ow 3 i9, .ow 1 k1, .int .i64 i0, .str i6, .str j2, .int .i64 g5, .ow 1 k4]) rfl rfl rfl rfl rfl ⟨_, _, rfl⟩ rfl rfl x5 rfl x0) ?_
   refine od ?_
   refine gs (gr (ra hA 4 (by cbv) (od ?_)))
   refine go_ret ⟨_, by cbv, ?_⟩
   show _ = PV.tup [.agg [.ow 1 e1, .ow 2 e5, .int .i64 a6, .ow 4 f4, .int .i64 a3, .int .i64 a4, .int .i64 a5, .int .i64 a2, .ow 1 i5, .ow 17 w13], .bool o7]
   have Ev : o7 = true := by assumption
   have E : fedB c1 i t = true := by rw [fedB_some hin.1 hx8, ← t3]; assumption
   simp only [fedL_yes E hx8, E, Ev, e9, f0, g8, j8, y1]
   subst m8 q8 s1 r6 r1 m4 l9 r0 q0 m2 n5 q6 q3 s9 t2 u0 t1 t6 i3 j8 g8 f0 e9
   rfl
  ·
   refine gk (gs (gr (ra hA 4 (by cbv) (od ?_))))
   refine go_ret ⟨_, by cbv, ?_⟩
   show _ = PV.tup [.agg [.ow 1 e1, .ow 2 e5, .int .i64 a6, .ow 4 f4, .int .i64 a3, .int .i64 a4, .int .i64 a5, .int .i64 a2, .ow 1 i5, .ow 17 g7], .bool o7]
   have Ev : o7 = false := by assumption
   have E : fedB c1 i t = false := by rw [fedB_some hin.1 hx8, ← t3]; assumption
   simp only [fedL_no E, E, Ev, e9, f0, g8, j8, i3]
   rfl
end Go.Av

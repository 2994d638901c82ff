/- Walks: lists of sessions. -/
import Derived.Test.YtjbokkoiicoahaaGreatF1
namespace Go.Av
open Go Go.Proofs
set_option maxRecDepth 100000
set_option maxHeartbeats 4000000
set_option linter.unusedVariables false
set_option linter.unusedSimpArgs false
theorem r_impl_opened (A : Alg) (hA : A = std) (xs : List GSession) (k : Int) (hz : ∀ q ∈ zsSessionS xs, q ≤ 1048576) : Real Tryz.prog 41 [.sl 17 (List.map eSession xs), .int .i64 k] (.tup [.ow 17 (List.map eoSession (openL xs k)), .bool (openB xs k)]) := by
 obtain ⟨i1, i5⟩ := nm (xs.map eSession)
 have n6 := rlen_map hA i5
 refine real_args (args' := [.sl 17 i1, .int .i64 k]) (by subst i5; rfl) ?_
 have hlen : List.length xs ≤ 1048576 := hz _ (List.mem_cons_self ..)
 have zSS := hz
 refine real tyOk Tryz.func41 (by kernel_rfl) (afun_of rfl ?_)
 refine gs (gr (ra hA 2 (by cbv) (od ?_)))
 refine gs (gr (ra hA 1 (by cbv) ?_))
 obtain ⟨i8, i9, hc2⟩ : ∃ (i8 : RR), i8 = List.map eoSession xs ∧ Real Tryz.prog 52 [.sl 17 i1] (.ow 17 i8) := ⟨_, rfl, by subst i5; exact r_impl_cloneSessions A hA xs (by assumption)⟩
 have p0 := rlen_map hA i9
 refine ops_callV rfl rfl (by cbv) (by cbv) hc2 (.inr rfl) (by cbv) ?_
 refine ra hA 1 (by cbv) (od ?_)
 refine gs (gr (ra hA 1 (by cbv) ?_))
 obtain ⟨e9, g2, f5, f1, b7, d2, e7, e1, b9, c2, d6, e0, c1, d5, d8, d0, e5, j2, l5, m0, l8, l3, j7, j9, g4, f7, j5, k1, f2, f6, k3, k8, k9, k0, g0, j6, hc4⟩ : ∃ (e9 : Int) (g2 : ByteArray) (f5 : ByteArray) (f1 : Bool) (b7 : Int) (d2 : ByteArray) (e7 : RR) (e1 : RR) (b9 : Int) (c2 : ByteArray) (d6 : RR) (e0 : RR) (c1 : Int) (d5 : ByteArray) (d8 : ByteArray) (d0 : Int) (e5 : RR) (j2 : Bool), e9 = ((sesNew k).Kind) ∧ g2 = ((sesNew k).In) ∧ f5 = ((sesNew k).Out) ∧ f1 = ((sesNew k).Over) ∧ b7 = (((sesNew k).Bring).State) ∧ d2 = (((sesNew k).Bring).From) ∧ e7 = List.map eString (((sesNew k).Bring).To) ∧ e1 = List.map eString (((sesNew k).Bring).Data) ∧ b9 = (((sesNew k).Fetch).State) ∧ c2 = (((sesNew k).Fetch).User) ∧ d6 = List.map eoMail (((sesNew k).Fetch).Mails) ∧ e0 = List.map eBool (((sesNew k).Fetch).Gone) ∧ c1 = (((sesNew k).Look).State) ∧ d5 = (((sesNew k).Look).User) ∧ d8 = (((sesNew k).Look).Box) ∧ d0 = (((sesNew k).Look).Valid) ∧ e5 = List.map eInt (((sesNew k).Look).Uids) ∧ j2 = (sesOk k) ∧ Real Tryz.prog 80 [.int .i64 k] (.tup [.agg [.int .i64 e9, .str g2, .str f5, .bool f1, .int .i64 b7, .str d2, .ow 1 e7, .ow 1 e1, .int .i64 b9, .str c2, .ow 3 d6, .ow 1 e0, .int .i64 c1, .str d5, .str d8, .int .i64 d0, .ow 1 e5], .bool j2]) := ⟨_, _, _, _, _, _, _, _, _, _, _, _, _, _, _, _, _, _, rfl, rfl, rfl, rfl, rfl, rfl, rfl, rfl, rfl, rfl, rfl, rfl, rfl, rfl, rfl, rfl, rfl, rfl, by exact r_impl_SessionNew A hA k ⟩
 have n2 := rlen_map hA g4
 have m4 := rlen_map hA f7
 have m2 := rlen_map hA f2
 have m7 := rlen_map hA f6
 have m8 := rlen_map hA g0
 refine ops_callV rfl rfl (by cbv) (by cbv) hc4 (.inr rfl) (by cbv) ?_
 refine ra hA 6 (by cbv) (od ?_)
 refine gs (gs (gr (ra hA 3 (by cbv) ?_)))
 refine ops_split 18 rfl (fun c5 => ?_) (fun c5 => ?_)
 ·
  have c6 : j2 = false := bnot_t hA c5
  refine ra hA 4 (by cbv) (od ?_)
  refine go_cond rfl (fun c7 => ?_) (fun c7 => ?_)
  ·
   refine gs (gr (ra hA 3 (by cbv) (od ?_)))
   refine go_ret ⟨_, by cbv, ?_⟩
   show _ = PV.tup [.ow 17 i8, .bool false]
   have E : openB xs k = false := by
    simp only [openB, Bool.and_eq_false_iff, decide_eq_false_iff_not]
    first | exact .inl (by first | (rw [← j6]; assumption) | assumption) | exact .inr (by omega)
   rw [openL, E, if_neg (by decide), i9]
  ·
   exact no_f c7 (show true = true from by rfl)
 ·
  have c8 : j2 = true := bnot_f hA c5
  refine ra hA 4 (by cbv) (od ?_)
  refine go_cond rfl (fun c9 => ?_) (fun c9 => ?_)
  ·
   have ec9 : 4 ≤ (A.rlen i1) := geq_t hA c9
   refine gs (gr (ra hA 3 (by cbv) (od ?_)))
   refine go_ret ⟨_, by cbv, ?_⟩
   show _ = PV.tup [.ow 17 i8, .bool false]
   have E : openB xs k = false := by
    simp only [openB, Bool.and_eq_false_iff, decide_eq_false_iff_not]
    first | exact .inl (by first | (rw [← j6]; assumption) | assumption) | exact .inr (by omega)
   rw [openL, E, if_neg (by decide), i9]
  ·
   have ec9 : (A.rlen i1) < 4 := geq_f hA c9
   refine gk (gs (gr (ra hA 3 (by cbv) ?_)))
   obtain ⟨r10, o1⟩ := nm (i8 ++ [[.int .i64 e9, .str g2, .str f5, .bool f1, .int .i64 b7, .str d2, .ow 1 e7, .ow 1 e1, .int .i64 b9, .str c2, .ow 3 d6, .ow 1 e0, .int .i64 c1, .str d5, .str d8, .int .i64 d0, .ow 1 e5]] : RR)
   have n8 : r10 = List.map eoSession (xs ++ ([(⟨e9, g2, f5, f1, ⟨b7, d2, ((sesNew k).Bring).To, ((sesNew k).Bring).Data⟩, ⟨b9, c2, ((sesNew k).Fetch).Mails, ((sesNew k).Fetch).Gone⟩, ⟨c1, d5, d8, d0, ((sesNew k).Look).Uids⟩⟩ : GSession)])) := by rw [o1]; exact app_eq i9 (by simp only [g4, f7, f2, f6, g0]; rfl)
   have p1 := rlen_map hA n8
   refine ops_step rfl rfl (app_own rfl rfl rfl rfl rfl rfl rfl rfl o1 (by cbv) (by cbv) (by cbv) rfl (by
    show (List.length i8 + List.length ([[.int .i64 e9, .str g2, .str f5, .bool f1, .int .i64 b7, .str d2, .ow 1 e7, .ow 1 e1, .int .i64 b9, .str c2, .ow 3 d6, .ow 1 e0, .int .i64 c1, .str d5, .str d8, .int .i64 d0, .ow 1 e5]])) * _ ≤ _
    show (List.length i8 + 1) * 264 ≤ _
    rw [i9, List.length_map]; omega) (by decide) (by decide)) ?_
   refine ra hA 2 (by cbv) (od ?_)
   refine go_ret ⟨_, by cbv, ?_⟩
   show _ = PV.tup [.ow 17 r10, .bool true]
   have E : openB xs k = true := by
    simp only [openB, Bool.and_eq_true, decide_eq_true_eq]
    exact ⟨by first | (rw [← j6]; assumption) | assumption, by omega⟩
   rw [openL, E, if_pos rfl]
   subst j6 g0 k0 k9 k8 k3 f6 f2 k1 j5 f7 g4 j9 j7 l3 l8 m0 l5 i9
   rw [n8]
theorem r_impl_fed (A : Alg) (hA : A = std) (xs : List GSession) (i : Int) (t : ByteArray) (hz : ∀ q ∈ zsSessionS xs, q ≤ 1048576) (ht : ByteArray.size t ≤ 1048576) : Real Tryz.prog 32 [.sl 17 (List.map eSession xs), .int .i64 i, .str t] (.tup [.ow 17 (List.map eoSession (fedL xs i t)), .bool (fedB xs i t)]) := by
 obtain ⟨i1, i5⟩ := nm (xs.map eSession)
 have n6 := rlen_map hA i5
 refine real_args (args' := [.sl 17 i1, .int .i64 i, .str t]) (by subst i5; rfl) ?_
 have hlen : List.length xs ≤ 1048576 := hz _ (List.mem_cons_self ..)
 have zSS := hz
 refine real tyOk Tryz.func32 (by kernel_rfl) (afun_of rfl ?_)
 refine gs (gr (ra hA 2 (by cbv) (od ?_)))
 refine gs (gr (ra hA 1 (by cbv) ?_))
 obtain ⟨i4, i3, hc2⟩ : ∃ (i4 : RR), i4 = List.map eoSession xs ∧ Real Tryz.prog 52 [.sl 17 i1] (.ow 17 i4) := ⟨_, rfl, by subst i5; exact r_impl_cloneSessions A hA xs (by assumption)⟩
 have o9 := rlen_map hA i3
 refine ops_callV rfl rfl (by cbv) (by cbv) hc2 (.inr rfl) (by cbv) ?_
 refine ra hA 1 (by cbv) (od ?_)
 refine gs (gs ?_)
 have wsub : A.num .sub .i64 (A.rlen i1) 1 = (List.length xs : Int) - 1 := by rw [n6]; exact sub_i64 hA (by omega) (by omega)
 refine gr (ra hA 4 (by cbv) ?_)
 obtain ⟨l2, l9, hc4⟩ : ∃ (l2 : Bool), l2 = (inR i 0 (A.num .sub .i64 (A.rlen i1) 1)) ∧ Real Tryz.prog 62 [.int .i64 i, .int .i64 0, .int .i64 (A.num .sub .i64 (A.rlen i1) 1)] (.bool l2) := ⟨_, rfl, by exact r_impl_in A hA i 0 (A.num .sub .i64 (A.rlen i1) 1) ⟩
 refine ops_callV rfl rfl (by cbv) (by cbv) hc4 (.inr rfl) (by cbv) ?_
 refine ra hA 1 (by cbv) (od ?_)
 refine go_cond rfl (fun c5 => ?_) (fun c5 => ?_)
 ·
  have c6 : l2 = false := bnot_t hA c5
  refine gs (gr (ra hA 3 (by cbv) (od ?_)))
  refine go_ret ⟨_, by cbv, ?_⟩
  show _ = PV.tup [.ow 17 i4, .bool false]
  have hin := c6
  rw [l9] at hin
  simp only [inR, wsub, Bool.and_eq_false_iff, decide_eq_false_iff_not] at hin
  have E := fedB_none (t := t) hin
  rw [fedL_no E, E, i3]
 ·
  have c7 : l2 = true := bnot_f hA c5
  refine gk (gs ?_)
  have hin := c7
  rw [l9] at hin
  simp only [inR, wsub, Bool.and_eq_true, decide_eq_true_eq] at hin
  refine gr (ra hA 2 (by cbv) ?_)
  have o5 : (0 : Int) ≤ i := by
   omega
  have o4 : (Int.toNat i) < List.length xs := by
   omega
  obtain ⟨x8, hx8⟩ : ∃ x, (xs)[(Int.toNat i)]? = some x := ⟨_, List.getElem?_eq_getElem o4⟩
  have o6 := List.mem_of_getElem? hx8
  obtain ⟨b3, b6, b5, b4, ⟨a0, a5, b2, a8⟩, ⟨a1, a4, a2, a7⟩, ⟨a3, a9, b1, a6, b0⟩⟩ := x8
  obtain ⟨j8, i0⟩ := nm (b2.map eString)
  have n7 := rlen_map hA i0
  obtain ⟨i6, g7⟩ := nm (a8.map eString)
  have n4 := rlen_map hA g7
  obtain ⟨i2, g5⟩ := nm (a2.map eMail)
  have n0 := rlen_map hA g5
  obtain ⟨i7, g8⟩ := nm (a7.map eBool)
  have n3 := rlen_map hA g8
  obtain ⟨j0, g9⟩ := nm (b0.map eInt)
  have n5 := rlen_map hA g9
  have o3 : i1[(Int.toNat i)]? = some [.int .i64 b3, .str b6, .str b5, .bool b4, .int .i64 a0, .str a5, .sl 1 j8, .sl 1 i6, .int .i64 a1, .str a4, .sl 3 i2, .sl 1 i7, .int .i64 a3, .str a9, .str b1, .int .i64 a6, .sl 1 j0] := by
   subst i0 g7 g5 g8 g9; exact map_at eSession i5 hx8
  have zS : ∀ q ∈ zsSession (⟨b3, b6, b5, b4, ⟨a0, a5, b2, a8⟩, ⟨a1, a4, a2, a7⟩, ⟨a3, a9, b1, a6, b0⟩⟩ : GSession), q ≤ 1048576 := fun q hq => hz q (List.mem_cons_of_mem _ (List.mem_flatMap.2 ⟨_, o6, hq⟩))
  refine ops_step rfl rfl (idx_sl rfl rfl rfl rfl rfl o5 rfl o3) ?_
  refine ra hA 2 (by cbv) ?_
  obtain ⟨f0, g3, f4, e8, b8, c3, e6, e2, c0, d3, d7, e3, c4, d4, d9, d1, e4, j1, l4, m1, l7, l6, j3, k2, g6, f9, j4, k4, f3, f8, k5, k7, l0, k6, g1, l1, o7⟩ : ∃ (f0 : Int) (g3 : ByteArray) (f4 : ByteArray) (e8 : Bool) (b8 : Int) (c3 : ByteArray) (e6 : RR) (e2 : RR) (c0 : Int) (d3 : ByteArray) (d7 : RR) (e3 : RR) (c4 : Int) (d4 : ByteArray) (d9 : ByteArray) (d1 : Int) (e4 : RR) (j1 : Bool), f0 = ((feedS (⟨b3, b6, b5, b4, ⟨a0, a5, b2, a8⟩, ⟨a1, a4, a2, a7⟩, ⟨a3, a9, b1, a6, b0⟩⟩ : GSession) t).Kind) ∧ g3 = ((feedS (⟨b3, b6, b5, b4, ⟨a0, a5, b2, a8⟩, ⟨a1, a4, a2, a7⟩, ⟨a3, a9, b1, a6, b0⟩⟩ : GSession) t).In) ∧ f4 = ((feedS (⟨b3, b6, b5, b4, ⟨a0, a5, b2, a8⟩, ⟨a1, a4, a2, a7⟩, ⟨a3, a9, b1, a6, b0⟩⟩ : GSession) t).Out) ∧ e8 = ((feedS (⟨b3, b6, b5, b4, ⟨a0, a5, b2, a8⟩, ⟨a1, a4, a2, a7⟩, ⟨a3, a9, b1, a6, b0⟩⟩ : GSession) t).Over) ∧ b8 = (((feedS (⟨b3, b6, b5, b4, ⟨a0, a5, b2, a8⟩, ⟨a1, a4, a2, a7⟩, ⟨a3, a9, b1, a6, b0⟩⟩ : GSession) t).Bring).State) ∧ c3 = (((feedS (⟨b3, b6, b5, b4, ⟨a0, a5, b2, a8⟩, ⟨a1, a4, a2, a7⟩, ⟨a3, a9, b1, a6, b0⟩⟩ : GSession) t).Bring).From) ∧ e6 = List.map eString (((feedS (⟨b3, b6, b5, b4, ⟨a0, a5, b2, a8⟩, ⟨a1, a4, a2, a7⟩, ⟨a3, a9, b1, a6, b0⟩⟩ : GSession) t).Bring).To) ∧ e2 = List.map eString (((feedS (⟨b3, b6, b5, b4, ⟨a0, a5, b2, a8⟩, ⟨a1, a4, a2, a7⟩, ⟨a3, a9, b1, a6, b0⟩⟩ : GSession) t).Bring).Data) ∧ c0 = (((feedS (⟨b3, b6, b5, b4, ⟨a0, a5, b2, a8⟩, ⟨a1, a4, a2, a7⟩, ⟨a3, a9, b1, a6, b0⟩⟩ : GSession) t).Fetch).State) ∧ d3 = (((feedS (⟨b3, b6, b5, b4, ⟨a0, a5, b2, a8⟩, ⟨a1, a4, a2, a7⟩, ⟨a3, a9, b1, a6, b0⟩⟩ : GSession) t).Fetch).User) ∧ d7 = List.map eoMail (((feedS (⟨b3, b6, b5, b4, ⟨a0, a5, b2, a8⟩, ⟨a1, a4, a2, a7⟩, ⟨a3, a9, b1, a6, b0⟩⟩ : GSession) t).Fetch).Mails) ∧ e3 = List.map eBool (((feedS (⟨b3, b6, b5, b4, ⟨a0, a5, b2, a8⟩, ⟨a1, a4, a2, a7⟩, ⟨a3, a9, b1, a6, b0⟩⟩ : GSession) t).Fetch).Gone) ∧ c4 = (((feedS (⟨b3, b6, b5, b4, ⟨a0, a5, b2, a8⟩, ⟨a1, a4, a2, a7⟩, ⟨a3, a9, b1, a6, b0⟩⟩ : GSession) t).Look).State) ∧ d4 = (((feedS (⟨b3, b6, b5, b4, ⟨a0, a5, b2, a8⟩, ⟨a1, a4, a2, a7⟩, ⟨a3, a9, b1, a6, b0⟩⟩ : GSession) t).Look).User) ∧ d9 = (((feedS (⟨b3, b6, b5, b4, ⟨a0, a5, b2, a8⟩, ⟨a1, a4, a2, a7⟩, ⟨a3, a9, b1, a6, b0⟩⟩ : GSession) t).Look).Box) ∧ d1 = (((feedS (⟨b3, b6, b5, b4, ⟨a0, a5, b2, a8⟩, ⟨a1, a4, a2, a7⟩, ⟨a3, a9, b1, a6, b0⟩⟩ : GSession) t).Look).Valid) ∧ e4 = List.map eInt (((feedS (⟨b3, b6, b5, b4, ⟨a0, a5, b2, a8⟩, ⟨a1, a4, a2, a7⟩, ⟨a3, a9, b1, a6, b0⟩⟩ : GSession) t).Look).Uids) ∧ j1 = (feedOk (⟨b3, b6, b5, b4, ⟨a0, a5, b2, a8⟩, ⟨a1, a4, a2, a7⟩, ⟨a3, a9, b1, a6, b0⟩⟩ : GSession) t) ∧ Real Tryz.prog 63 [.agg [.int .i64 b3, .str b6, .str b5, .bool b4, .int .i64 a0, .str a5, .sl 1 j8, .sl 1 i6, .int .i64 a1, .str a4, .sl 3 i2, .sl 1 i7, .int .i64 a3, .str a9, .str b1, .int .i64 a6, .sl 1 j0], .str t] (.tup [.agg [.int .i64 f0, .str g3, .str f4, .bool e8, .int .i64 b8, .str c3, .ow 1 e6, .ow 1 e2, .int .i64 c0, .str d3, .ow 3 d7, .ow 1 e3, .int .i64 c4, .str d4, .str d9, .int .i64 d1, .ow 1 e4], .bool j1]) := ⟨_, _, _, _, _, _, _, _, _, _, _, _, _, _, _, _, _, _, rfl, rfl, rfl, rfl, rfl, rfl, rfl, rfl, rfl, rfl, rfl, rfl, rfl, rfl, rfl, rfl, rfl, rfl, by subst i0 g7 g5 g8 g9; exact r_impl_FeedSession A hA (⟨b3, b6, b5, b4, ⟨a0, a5, b2, a8⟩, ⟨a1, a4, a2, a7⟩, ⟨a3, a9, b1, a6, b0⟩⟩ : GSession) t (by assumption) (by assumption)⟩
  have n1 := rlen_map hA g6
  have m6 := rlen_map hA f9
  have m3 := rlen_map hA f3
  have m5 := rlen_map hA f8
  have m9 := rlen_map hA g1
  refine ops_callV rfl rfl (by cbv) (by cbv) o7 (.inr rfl) (by cbv) ?_
  refine ra hA 6 (by cbv) (od ?_)
  refine gs (gs (gr (ra hA 2 (by cbv) (od ?_))))
  refine go_cond rfl (fun c11 => ?_) (fun c11 => ?_)
  ·
   have c12 : j1 = false := bnot_t hA c11
   refine gs (gr (ra hA 3 (by cbv) (od ?_)))
   refine go_ret ⟨_, by cbv, ?_⟩
   show _ = PV.tup [.ow 17 i4, .bool false]
   have E : fedB xs i t = false := by rw [fedB_some hin.1 hx8, ← l1]; assumption
   rw [fedL_no E, E, i3]
  ·
   have c13 : j1 = true := bnot_f hA c11
   refine gk (gs (gr (ra hA 3 (by cbv) ?_)))
   have n9 : i < (List.length i4 : Int) := by
    rw [i3, List.length_map]; omega
   refine ops_step rfl rfl (idx_own rfl rfl rfl rfl rfl rfl (by omega) n9 rfl) ?_
   have o2 : i4[Int.toNat i]? = some (eoSession (⟨b3, b6, b5, b4, ⟨a0, a5, b2, a8⟩, ⟨a1, a4, a2, a7⟩, ⟨a3, a9, b1, a6, b0⟩⟩ : GSession)) := by
    rw [i3, List.getElem?_map, hx8]; rfl
   obtain ⟨w15, o0⟩ := nm (List.set i4 (Int.toNat i) [.int .i64 f0, .str g3, .str f4, .bool e8, .int .i64 b8, .str c3, .ow 1 e6, .ow 1 e2, .int .i64 c0, .str d3, .ow 3 d7, .ow 1 e3, .int .i64 c4, .str d4, .str d9, .int .i64 d1, .ow 1 e4] : RR)
   have o8 : w15 = List.map eoSession (List.set xs (Int.toNat i) (⟨f0, g3, f4, e8, ⟨b8, c3, ((feedS (⟨b3, b6, b5, b4, ⟨a0, a5, b2, a8⟩, ⟨a1, a4, a2, a7⟩, ⟨a3, a9, b1, a6, b0⟩⟩ : GSession) t).Bring).To, ((feedS (⟨b3, b6, b5, b4, ⟨a0, a5, b2, a8⟩, ⟨a1, a4, a2, a7⟩, ⟨a3, a9, b1, a6, b0⟩⟩ : GSession) t).Bring).Data⟩, ⟨c0, d3, ((feedS (⟨b3, b6, b5, b4, ⟨a0, a5, b2, a8⟩, ⟨a1, a4, a2, a7⟩, ⟨a3, a9, b1, a6, b0⟩⟩ : GSession) t).Fetch).Mails, ((feedS (⟨b3, b6, b5, b4, ⟨a0, a5, b2, a8⟩, ⟨a1, a4, a2, a7⟩, ⟨a3, a9, b1, a6, b0⟩⟩ : GSession) t).Fetch).Gone⟩, ⟨c4, d4, d9, d1, ((feedS (⟨b3, b6, b5, b4, ⟨a0, a5, b2, a8⟩, ⟨a1, a4, a2, a7⟩, ⟨a3, a9, b1, a6, b0⟩⟩ : GSession) t).Look).Uids⟩⟩ : GSession)) := by
    rw [o0, i3, List.map_set]
    refine congrArg (List.set _ _) ?_
    simp only [g6, f9, f3, f8, g1]; rfl
   refine ops_step rfl rfl (sto_arr (r := eoSession (⟨b3, b6, b5, b4, ⟨a0, a5, b2, a8⟩, ⟨a1, a4, a2, a7⟩, ⟨a3, a9, b1, a6, b0⟩⟩ : GSession)) (cs := [.int .i64 f0, .str g3, .str f4, .bool e8, .int .i64 b8, .str c3, .ow 1 e6, .ow 1 e2, .int .i64 c0, .str d3, .ow 3 d7, .ow 1 e3, .int .i64 c4, .str d4, .str d9, .int .i64 d1, .ow 1 e4]) rfl rfl rfl rfl rfl ⟨_, _, rfl⟩ rfl rfl o2 rfl o0) ?_
   refine od ?_
   refine gs (gr (ra hA 3 (by cbv) (od ?_)))
   refine go_ret ⟨_, by cbv, ?_⟩
   show _ = PV.tup [.ow 17 w15, .bool true]
   have E : fedB xs i t = true := by rw [fedB_some hin.1 hx8, ← l1]; assumption
   rw [fedL_yes E hx8, E, o8]
   subst l1 g1 k6 l0 k7 k5 f8 f3 k4 j4 f9 g6 k2 j3 l6 l7 m1 l4 l9 i3
   rfl
end Go.Av

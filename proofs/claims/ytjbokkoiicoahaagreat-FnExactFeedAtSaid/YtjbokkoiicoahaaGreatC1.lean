/- Walks: copies. -/
import Derived.Test.YtjbokkoiicoahaaGreatTm
namespace Go.Av
open Go Go.Proofs
set_option maxRecDepth 100000
set_option maxHeartbeats 4000000
set_option linter.unusedVariables false
set_option linter.unusedSimpArgs false
theorem r_Clone_Int (A : Alg) (hA : A = std) (x : List Int) (hb : List.length x ≤ 1048576) : Real Tryz.prog 65 [.sl 1 (List.map eInt x)] (.ow 1 (List.map eInt x)) := by
 obtain ⟨x_r, a2⟩ := nm (x.map eInt)
 have d6 := rlen_map hA a2
 refine real_args (args' := [.sl 1 x_r]) (by subst a2; rfl) ?_
 refine real tyOk Tryz.func65 (by kernel_rfl) (afun_of rfl ?_)
 refine gs (gr (ra hA 1 (by cbv) (od ?_)))
 refine gs (gs (gr (ra hA 1 (by cbv) ?_)))
 refine ops_isnil rfl rfl rfl rfl (by cbv) (fun b1 hb1 => ?_)
 refine od ?_
 refine go_cond rfl (fun c2 => ?_) (fun c2 => ?_)
 ·
  refine gs (gB (ra hA 1 (by cbv) ?_))
  refine ops_doneB (tw := [.slot 2 2 1]) (by cbv) ?_
  refine go_ret ⟨_, by cbv, ?_⟩
  show _ = (PV.ow 1 ([]))
  refine congrArg (PV.ow 1) ?_
  exact Eq.trans (show List.map eInt x = List.map eInt x from rfl) (a2.symm.trans (hb1 c2))
 ·
  refine gk (gs (gr (ra hA 2 (by cbv) ?_)))
  obtain ⟨r3, hr3⟩ := nm (([]) ++ x_r : RR)
  have er3 : r3 = List.map eInt (([]) ++ x) := by rw [hr3]; exact app_eq rfl a2
  have lr3 := rlen_map hA er3
  refine ops_step rfl rfl (app_own rfl rfl rfl rfl rfl rfl rfl rfl hr3 (by cbv) (by cbv) (by cbv) rfl (by
   show (List.length ([]) + List.length x_r) * _ ≤ _
   show (List.length ([] : RR) + List.length x_r) * 8 ≤ _
   rw [a2]; simp only [List.length_nil, List.length_map]; omega) (by decide) (by decide)) ?_
  refine ra hA 1 (by cbv) (od ?_)
  refine go_ret ⟨_, by cbv, ?_⟩
  show _ = (PV.ow 1 r3)
  refine congrArg (PV.ow 1) ?_
  exact (er3.trans rfl).symm
theorem r_Clone_Bool (A : Alg) (hA : A = std) (x : List Bool) (hb : List.length x ≤ 1048576) : Real Tryz.prog 177 [.sl 1 (List.map eBool x)] (.ow 1 (List.map eBool x)) := by
 obtain ⟨x_r, a2⟩ := nm (x.map eBool)
 have d6 := rlen_map hA a2
 refine real_args (args' := [.sl 1 x_r]) (by subst a2; rfl) ?_
 refine real tyOk Tryz.func177 (by kernel_rfl) (afun_of rfl ?_)
 refine gs (gr (ra hA 1 (by cbv) (od ?_)))
 refine gs (gs (gr (ra hA 1 (by cbv) ?_)))
 refine ops_isnil rfl rfl rfl rfl (by cbv) (fun b1 hb1 => ?_)
 refine od ?_
 refine go_cond rfl (fun c2 => ?_) (fun c2 => ?_)
 ·
  refine gs (gB (ra hA 1 (by cbv) ?_))
  refine ops_doneB (tw := [.slot 2 2 1]) (by cbv) ?_
  refine go_ret ⟨_, by cbv, ?_⟩
  show _ = (PV.ow 1 ([]))
  refine congrArg (PV.ow 1) ?_
  exact Eq.trans (show List.map eBool x = List.map eBool x from rfl) (a2.symm.trans (hb1 c2))
 ·
  refine gk (gs (gr (ra hA 2 (by cbv) ?_)))
  obtain ⟨r3, hr3⟩ := nm (([]) ++ x_r : RR)
  have er3 : r3 = List.map eBool (([]) ++ x) := by rw [hr3]; exact app_eq rfl a2
  have lr3 := rlen_map hA er3
  refine ops_step rfl rfl (app_own rfl rfl rfl rfl rfl rfl rfl rfl hr3 (by cbv) (by cbv) (by cbv) rfl (by
   show (List.length ([]) + List.length x_r) * _ ≤ _
   show (List.length ([] : RR) + List.length x_r) * 1 ≤ _
   rw [a2]; simp only [List.length_nil, List.length_map]; omega) (by decide) (by decide)) ?_
  refine ra hA 1 (by cbv) (od ?_)
  refine go_ret ⟨_, by cbv, ?_⟩
  show _ = (PV.ow 1 r3)
  refine congrArg (PV.ow 1) ?_
  exact (er3.trans rfl).symm
theorem r_Clone_String (A : Alg) (hA : A = std) (x : List ByteArray) (hb : List.length x ≤ 1048576) : Real Tryz.prog 150 [.sl 1 (List.map eString x)] (.ow 1 (List.map eString x)) := by
 obtain ⟨x_r, a2⟩ := nm (x.map eString)
 have d6 := rlen_map hA a2
 refine real_args (args' := [.sl 1 x_r]) (by subst a2; rfl) ?_
 refine real tyOk Tryz.func150 (by kernel_rfl) (afun_of rfl ?_)
 refine gs (gr (ra hA 1 (by cbv) (od ?_)))
 refine gs (gs (gr (ra hA 1 (by cbv) ?_)))
 refine ops_isnil rfl rfl rfl rfl (by cbv) (fun b1 hb1 => ?_)
 refine od ?_
 refine go_cond rfl (fun c2 => ?_) (fun c2 => ?_)
 ·
  refine gs (gB (ra hA 1 (by cbv) ?_))
  refine ops_doneB (tw := [.slot 2 2 1]) (by cbv) ?_
  refine go_ret ⟨_, by cbv, ?_⟩
  show _ = (PV.ow 1 ([]))
  refine congrArg (PV.ow 1) ?_
  exact Eq.trans (show List.map eString x = List.map eString x from rfl) (a2.symm.trans (hb1 c2))
 ·
  refine gk (gs (gr (ra hA 2 (by cbv) ?_)))
  obtain ⟨r3, hr3⟩ := nm (([]) ++ x_r : RR)
  have er3 : r3 = List.map eString (([]) ++ x) := by rw [hr3]; exact app_eq rfl a2
  have lr3 := rlen_map hA er3
  refine ops_step rfl rfl (app_own rfl rfl rfl rfl rfl rfl rfl rfl hr3 (by cbv) (by cbv) (by cbv) rfl (by
   show (List.length ([]) + List.length x_r) * _ ≤ _
   show (List.length ([] : RR) + List.length x_r) * 16 ≤ _
   rw [a2]; simp only [List.length_nil, List.length_map]; omega) (by decide) (by decide)) ?_
  refine ra hA 1 (by cbv) (od ?_)
  refine go_ret ⟨_, by cbv, ?_⟩
  show _ = (PV.ow 1 r3)
  refine congrArg (PV.ow 1) ?_
  exact (er3.trans rfl).symm
theorem r_Clone_Mail (A : Alg) (hA : A = std) (x : List GMail) (hb : List.length x ≤ 1048576) : Real Tryz.prog 176 [.sl 3 (List.map eMail x)] (.ow 3 (List.map eoMail x)) := by
 obtain ⟨x_r, a2⟩ := nm (x.map eMail)
 have d6 := rlen_map hA a2
 refine real_args (args' := [.sl 3 x_r]) (by subst a2; rfl) ?_
 refine real tyOk Tryz.func176 (by kernel_rfl) (afun_of rfl ?_)
 refine gs (gr (ra hA 1 (by cbv) (od ?_)))
 refine gs (gs (gr (ra hA 1 (by cbv) ?_)))
 refine ops_isnil rfl rfl rfl rfl (by cbv) (fun b1 hb1 => ?_)
 refine od ?_
 refine go_cond rfl (fun c2 => ?_) (fun c2 => ?_)
 ·
  refine gs (gB (ra hA 1 (by cbv) ?_))
  refine ops_doneB (tw := [.slot 2 2 3]) (by cbv) ?_
  refine go_ret ⟨_, by cbv, ?_⟩
  show _ = (PV.ow 3 ([]))
  refine congrArg (PV.ow 3) ?_
  exact Eq.trans (show List.map eoMail x = List.map eMail x from rfl) (a2.symm.trans (hb1 c2))
 ·
  refine gk (gs (gr (ra hA 2 (by cbv) ?_)))
  obtain ⟨r3, hr3⟩ := nm (([]) ++ x_r : RR)
  have er3 : r3 = List.map eoMail (([]) ++ x) := by rw [hr3]; exact app_eq rfl a2
  have lr3 := rlen_map hA er3
  refine ops_step rfl rfl (app_own rfl rfl rfl rfl rfl rfl rfl rfl hr3 (by cbv) (by cbv) (by cbv) rfl (by
   show (List.length ([]) + List.length x_r) * _ ≤ _
   show (List.length ([] : RR) + List.length x_r) * 32 ≤ _
   rw [a2]; simp only [List.length_nil, List.length_map]; omega) (by decide) (by decide)) ?_
  refine ra hA 1 (by cbv) (od ?_)
  refine go_ret ⟨_, by cbv, ?_⟩
  show _ = (PV.ow 3 r3)
  refine congrArg (PV.ow 3) ?_
  exact (er3.trans rfl).symm
theorem r_Clone_Item (A : Alg) (hA : A = std) (x : List GItem) (hb : List.length x ≤ 1048576) : Real Tryz.prog 111 [.sl 9 (List.map eItem x)] (.ow 9 (List.map eoItem x)) := by
 obtain ⟨x_r, a2⟩ := nm (x.map eItem)
 have d6 := rlen_map hA a2
 refine real_args (args' := [.sl 9 x_r]) (by subst a2; rfl) ?_
 refine real tyOk Tryz.func111 (by kernel_rfl) (afun_of rfl ?_)
 refine gs (gr (ra hA 1 (by cbv) (od ?_)))
 refine gs (gs (gr (ra hA 1 (by cbv) ?_)))
 refine ops_isnil rfl rfl rfl rfl (by cbv) (fun b1 hb1 => ?_)
 refine od ?_
 refine go_cond rfl (fun c2 => ?_) (fun c2 => ?_)
 ·
  refine gs (gB (ra hA 1 (by cbv) ?_))
  refine ops_doneB (tw := [.slot 2 2 9]) (by cbv) ?_
  refine go_ret ⟨_, by cbv, ?_⟩
  show _ = (PV.ow 9 ([]))
  refine congrArg (PV.ow 9) ?_
  exact Eq.trans (show List.map eoItem x = List.map eItem x from rfl) (a2.symm.trans (hb1 c2))
 ·
  refine gk (gs (gr (ra hA 2 (by cbv) ?_)))
  obtain ⟨r3, hr3⟩ := nm (([]) ++ x_r : RR)
  have er3 : r3 = List.map eoItem (([]) ++ x) := by rw [hr3]; exact app_eq rfl a2
  have lr3 := rlen_map hA er3
  refine ops_step rfl rfl (app_own rfl rfl rfl rfl rfl rfl rfl rfl hr3 (by cbv) (by cbv) (by cbv) rfl (by
   show (List.length ([]) + List.length x_r) * _ ≤ _
   show (List.length ([] : RR) + List.length x_r) * 96 ≤ _
   rw [a2]; simp only [List.length_nil, List.length_map]; omega) (by decide) (by decide)) ?_
  refine ra hA 1 (by cbv) (od ?_)
  refine go_ret ⟨_, by cbv, ?_⟩
  show _ = (PV.ow 9 r3)
  refine congrArg (PV.ow 9) ?_
  exact (er3.trans rfl).symm
theorem r_Clone_Write (A : Alg) (hA : A = std) (x : List GWrite) (hb : List.length x ≤ 1048576) : Real Tryz.prog 151 [.sl 2 (List.map eWrite x)] (.ow 2 (List.map eoWrite x)) := by
 obtain ⟨x_r, a2⟩ := nm (x.map eWrite)
 have d6 := rlen_map hA a2
 refine real_args (args' := [.sl 2 x_r]) (by subst a2; rfl) ?_
 refine real tyOk Tryz.func151 (by kernel_rfl) (afun_of rfl ?_)
 refine gs (gr (ra hA 1 (by cbv) (od ?_)))
 refine gs (gs (gr (ra hA 1 (by cbv) ?_)))
 refine ops_isnil rfl rfl rfl rfl (by cbv) (fun b1 hb1 => ?_)
 refine od ?_
 refine go_cond rfl (fun c2 => ?_) (fun c2 => ?_)
 ·
  refine gs (gB (ra hA 1 (by cbv) ?_))
  refine ops_doneB (tw := [.slot 2 2 2]) (by cbv) ?_
  refine go_ret ⟨_, by cbv, ?_⟩
  show _ = (PV.ow 2 ([]))
  refine congrArg (PV.ow 2) ?_
  exact Eq.trans (show List.map eoWrite x = List.map eWrite x from rfl) (a2.symm.trans (hb1 c2))
 ·
  refine gk (gs (gr (ra hA 2 (by cbv) ?_)))
  obtain ⟨r3, hr3⟩ := nm (([]) ++ x_r : RR)
  have er3 : r3 = List.map eoWrite (([]) ++ x) := by rw [hr3]; exact app_eq rfl a2
  have lr3 := rlen_map hA er3
  refine ops_step rfl rfl (app_own rfl rfl rfl rfl rfl rfl rfl rfl hr3 (by cbv) (by cbv) (by cbv) rfl (by
   show (List.length ([]) + List.length x_r) * _ ≤ _
   show (List.length ([] : RR) + List.length x_r) * 24 ≤ _
   rw [a2]; simp only [List.length_nil, List.length_map]; omega) (by decide) (by decide)) ?_
  refine ra hA 1 (by cbv) (od ?_)
  refine go_ret ⟨_, by cbv, ?_⟩
  show _ = (PV.ow 2 r3)
  refine congrArg (PV.ow 2) ?_
  exact (er3.trans rfl).symm
theorem r_spec_l03Copy (A : Alg) (hA : A = std) (x : GDisk) (hz : ∀ k ∈ zsDisk x, k ≤ 1048576) : Real Tryz.prog 144 [.agg (eDisk x)] (.agg (eoDisk x)) := by
 obtain ⟨a8, b2⟩ := x
 obtain ⟨a0, a6⟩ := nm (a8.map eString)
 have d3 := rlen_map hA a6
 obtain ⟨a1, a9⟩ := nm (b2.map eWrite)
 have e1 := rlen_map hA a9
 refine real_args (args' := [.agg [.sl 1 a0, .sl 2 a1]]) (by subst a6 a9; rfl) ?_
 have n0 : List.length a8 ≤ 1048576 := hz _ (by simp [zsDisk, zsStringS, zsWriteS])
 have n1 : List.length b2 ≤ 1048576 := hz _ (by simp [zsDisk, zsStringS, zsWriteS])
 refine real tyOk Tryz.func144 (by kernel_rfl) (afun_of rfl ?_)
 refine gs (gr (ra hA 2 (by cbv) (od ?_)))
 refine gs ?_
 obtain ⟨r1, hr1⟩ := nm (([]) ++ a0 : RR)
 have er1 : r1 = List.map eString (([]) ++ a8) := by rw [hr1]; exact app_eq rfl a6
 have lr1 := rlen_map hA er1
 obtain ⟨r2, hr2⟩ := nm (([]) ++ a1 : RR)
 have er2 : r2 = List.map eoWrite (([]) ++ b2) := by rw [hr2]; exact app_eq rfl a9
 have lr2 := rlen_map hA er2
 refine go_drawE (by cbv) rfl rfl ({ sl := [.agg [.sl 1 a0, .sl 2 a1], .pt 1 0 0, .pt 2 0 0, .bad, .pt 1 0 0, .sl 1 a0, .own 3, .bad, .pt 1 0 1, .sl 2 a1, .own 7, .agg [.own 3, .own 7]], bl := [(1, ⟨.var, 2, [[.sl 1 a0, .sl 2 a1]]⟩), (2, ⟨.var, 2, [[.own 3, .own 7]]⟩), (3, ⟨.arr, 1, r1⟩), (7, ⟨.arr, 2, r2⟩)] } : St) (fun dR dK dhR dhF => ?_) ?_
 ·
  have d7 : ∀ (dn : Nat), cntF [true, true, true, true, true, true, true, true, true, true] = dn → dwp T ⟨Real Tryz.prog, RealM Tryz.prog, RealC Tryz.prog⟩ dR dK dn [true, true, true, true, true, true, true, true, true, true] ({ sl := [.agg [.sl 1 a0, .sl 2 a1], .pt 1 0 0, .pt 2 0 0, .bad, .pt 1 0 0, .sl 1 a0, .own 3, .bad, .pt 1 0 1, .sl 2 a1, .own 7, .agg [.own 3, .own 7]], bl := [(1, ⟨.var, 2, [[.sl 1 a0, .sl 2 a1]]⟩), (2, ⟨.var, 2, [[.own 3, .own 7]]⟩), (3, ⟨.arr, 1, r1⟩), (7, ⟨.arr, 2, r2⟩)] } : St) := by
   intro dn
   induction dn with
   | zero =>
    intro  dhn
    exact dwp_last dhF
   | succ dn ih =>
    intro  dhn
    subst dhR
    refine dwp_next (is := [0, 1, 2, 3, 4, 5, 6, 7, 8, 9]) rfl ?_
    refine allRdy_none rfl ?_
    refine allRdy_none rfl ?_
    refine allRdy_none rfl ?_
    refine allRdy_none rfl ?_
    refine allRdy_none rfl ?_
    refine allRdy_none rfl ?_
    refine allRdy_none rfl ?_
    refine allRdy_none rfl ?_
    refine allRdy_none rfl ?_
    refine allRdy_none rfl ?_
    exact trivial
  have e2 : ∀ (dn : Nat) (dB8 : Bool) (dQ8 : PV), (dB8 = true → dQ8 = .agg [.own 3, .own 7]) → cntF [true, true, true, true, true, true, true, true, dB8, false] = dn → dwp T ⟨Real Tryz.prog, RealM Tryz.prog, RealC Tryz.prog⟩ dR dK dn [true, true, true, true, true, true, true, true, dB8, false] ({ sl := [.agg [.sl 1 a0, .sl 2 a1], .pt 1 0 0, .pt 2 0 0, .bad, .pt 1 0 0, .sl 1 a0, .own 3, .bad, .pt 1 0 1, .sl 2 a1, .own 7, dQ8], bl := [(1, ⟨.var, 2, [[.sl 1 a0, .sl 2 a1]]⟩), (2, ⟨.var, 2, [[.zc, .zc]]⟩), (3, ⟨.arr, 1, r1⟩), (7, ⟨.arr, 2, r2⟩)] } : St) := by
   intro dn
   induction dn with
   | zero =>
    intro dB8 dQ8 dh8 dhn
    exact absurd (show false = true from cntF_zero  _ dhn 9 (by show 9 < 10; decide)) (by decide)
   | succ dn ih =>
    intro dB8 dQ8 dh8 dhn
    subst dhR
    refine dwp_next (is := [0, 1, 2, 3, 4, 5, 6, 7, 8, 9]) rfl ?_
    refine allRdy_none rfl ?_
    refine allRdy_none rfl ?_
    refine allRdy_none rfl ?_
    refine allRdy_none rfl ?_
    refine allRdy_none rfl ?_
    refine allRdy_none rfl ?_
    refine allRdy_none rfl ?_
    refine allRdy_none rfl ?_
    refine allRdy_q rfl rfl (fun h0 h1 => ?_) ?_
    ·
     cases (show dB8 = false from h0)
     refine ra hA 1 (by cbv) ?_
     exact ops_done (dwp_to [] (by cbv) rfl (ih true (.agg [.own 3, .own 7]) (fun _ => rfl) (cnt_dec h0 (by show 8 < 10; decide) dhn)))
    refine allRdy_q rfl rfl (fun h0 h1 => ?_) ?_
    ·
     obtain rfl : dB8 = true := h1.1
     obtain rfl := dh8 rfl
     refine ra hA 1 (by cbv) ?_
     exact ops_done (dwp_to [] (by cbv) rfl (d7 dn (cnt_dec h0 (by show 9 < 10; decide) dhn)))
    exact trivial
  have d8 : ∀ (dn : Nat) (dB5 : Bool) (dB6 : Bool) (dQ5 : PV) (dQ6 : PV), (dB5 = true → dQ5 = .pt 1 0 1) → (dB6 = true → dQ6 = .sl 2 a1) → (dB6 = true → dB5 = true) → cntF [true, true, true, true, true, dB5, dB6, false, false, false] = dn → dwp T ⟨Real Tryz.prog, RealM Tryz.prog, RealC Tryz.prog⟩ dR dK dn [true, true, true, true, true, dB5, dB6, false, false, false] ({ sl := [.agg [.sl 1 a0, .sl 2 a1], .pt 1 0 0, .pt 2 0 0, .bad, .pt 1 0 0, .sl 1 a0, .own 3, .own 7, dQ5, dQ6, .bad, .bad], bl := [(1, ⟨.var, 2, [[.sl 1 a0, .sl 2 a1]]⟩), (2, ⟨.var, 2, [[.zc, .zc]]⟩), (3, ⟨.arr, 1, r1⟩), (7, ⟨.arr, 2, []⟩)] } : St) := by
   intro dn
   induction dn with
   | zero =>
    intro dB5 dB6 dQ5 dQ6 dh5 dh6 a3 dhn
    exact absurd (show false = true from cntF_zero  _ dhn 7 (by show 7 < 10; decide)) (by decide)
   | succ dn ih =>
    intro dB5 dB6 dQ5 dQ6 dh5 dh6 a3 dhn
    subst dhR
    refine dwp_next (is := [0, 1, 2, 3, 4, 5, 6, 7, 8, 9]) rfl ?_
    refine allRdy_none rfl ?_
    refine allRdy_none rfl ?_
    refine allRdy_none rfl ?_
    refine allRdy_none rfl ?_
    refine allRdy_none rfl ?_
    refine allRdy_q rfl rfl (fun h0 h1 => ?_) ?_
    ·
     cases (show dB5 = false from h0)
     refine ra hA 1 (by cbv) ?_
     exact ops_done (dwp_to [] (by cbv) rfl (ih true dB6 (.pt 1 0 1) (dQ6) (fun _ => rfl) dh6 (fun _ => rfl) (cnt_dec h0 (by show 5 < 10; decide) dhn)))
    refine allRdy_q rfl rfl (fun h0 h1 => ?_) ?_
    ·
     cases (show dB6 = false from h0)
     obtain rfl : dB5 = true := h1.1
     obtain rfl := dh5 rfl
     refine ra hA 1 (by cbv) ?_
     exact ops_done (dwp_to [] (by cbv) rfl (ih true true (.pt 1 0 1) (.sl 2 a1) (fun _ => rfl) (fun _ => rfl) (fun _ => rfl) (cnt_dec h0 (by show 6 < 10; decide) dhn)))
    refine allRdy_q rfl rfl (fun h0 h1 => ?_) ?_
    ·
     obtain rfl : dB6 = true := h1.2.1
     obtain rfl := dh6 rfl
     obtain rfl : dB5 = true := a3 rfl
     obtain rfl := dh5 rfl
     refine ops_step rfl rfl (app_own rfl rfl rfl rfl rfl rfl rfl rfl hr2 (by cbv) (by cbv) (by cbv) rfl (by
      show (List.length ([]) + List.length a1) * _ ≤ _
      simp only [List.length_nil, List.length_map, Nat.zero_add, *]
      omega) (by decide) (by decide)) ?_
     exact ops_done (dwp_to [] (by cbv) rfl (e2 dn false (.bad) (fun h => absurd h (by decide)) (cnt_dec h0 (by show 7 < 10; decide) dhn)))
    refine allRdy_q rfl rfl (fun _ h1 => absurd (show false = true from h1.2.1) (by decide)) ?_
    refine allRdy_q rfl rfl (fun _ h1 => absurd (show false = true from h1.1) (by decide)) ?_
    exact trivial
  have f2 : ∀ (dn : Nat) (dB5 : Bool) (dB6 : Bool) (dQ5 : PV) (dQ6 : PV), (dB5 = true → dQ5 = .pt 1 0 1) → (dB6 = true → dQ6 = .sl 2 a1) → (dB6 = true → dB5 = true) → cntF [true, true, true, true, false, dB5, dB6, false, false, false] = dn → dwp T ⟨Real Tryz.prog, RealM Tryz.prog, RealC Tryz.prog⟩ dR dK dn [true, true, true, true, false, dB5, dB6, false, false, false] ({ sl := [.agg [.sl 1 a0, .sl 2 a1], .pt 1 0 0, .pt 2 0 0, .bad, .pt 1 0 0, .sl 1 a0, .own 3, .bad, dQ5, dQ6, .bad, .bad], bl := [(1, ⟨.var, 2, [[.sl 1 a0, .sl 2 a1]]⟩), (2, ⟨.var, 2, [[.zc, .zc]]⟩), (3, ⟨.arr, 1, r1⟩)] } : St) := by
   intro dn
   induction dn with
   | zero =>
    intro dB5 dB6 dQ5 dQ6 dh5 dh6 a3 dhn
    exact absurd (show false = true from cntF_zero  _ dhn 4 (by show 4 < 10; decide)) (by decide)
   | succ dn ih =>
    intro dB5 dB6 dQ5 dQ6 dh5 dh6 a3 dhn
    subst dhR
    refine dwp_next (is := [0, 1, 2, 3, 4, 5, 6, 7, 8, 9]) rfl ?_
    refine allRdy_none rfl ?_
    refine allRdy_none rfl ?_
    refine allRdy_none rfl ?_
    refine allRdy_none rfl ?_
    refine allRdy_q rfl rfl (fun h0 h1 => ?_) ?_
    ·
     refine ra hA 1 (by cbv) ?_
     exact ops_done (dwp_to [.up 7, .up 3, .up 2, .up 1] (by cbv) rfl (d8 dn dB5 dB6 (dQ5) (dQ6) dh5 dh6 a3 (cnt_dec h0 (by show 4 < 10; decide) dhn)))
    refine allRdy_q rfl rfl (fun h0 h1 => ?_) ?_
    ·
     cases (show dB5 = false from h0)
     refine ra hA 1 (by cbv) ?_
     exact ops_done (dwp_to [] (by cbv) rfl (ih true dB6 (.pt 1 0 1) (dQ6) (fun _ => rfl) dh6 (fun _ => rfl) (cnt_dec h0 (by show 5 < 10; decide) dhn)))
    refine allRdy_q rfl rfl (fun h0 h1 => ?_) ?_
    ·
     cases (show dB6 = false from h0)
     obtain rfl : dB5 = true := h1.1
     obtain rfl := dh5 rfl
     refine ra hA 1 (by cbv) ?_
     exact ops_done (dwp_to [] (by cbv) rfl (ih true true (.pt 1 0 1) (.sl 2 a1) (fun _ => rfl) (fun _ => rfl) (fun _ => rfl) (cnt_dec h0 (by show 6 < 10; decide) dhn)))
    refine allRdy_q rfl rfl (fun _ h1 => absurd (show false = true from h1.1) (by decide)) ?_
    refine allRdy_q rfl rfl (fun _ h1 => absurd (show false = true from h1.2.1) (by decide)) ?_
    refine allRdy_q rfl rfl (fun _ h1 => absurd (show false = true from h1.1) (by decide)) ?_
    exact trivial
  have e7 : ∀ (dn : Nat) (dB1 : Bool) (dB2 : Bool) (dB5 : Bool) (dB6 : Bool) (dQ1 : PV) (dQ2 : PV) (dQ5 : PV) (dQ6 : PV), (dB1 = true → dQ1 = .pt 1 0 0) → (dB2 = true → dQ2 = .sl 1 a0) → (dB5 = true → dQ5 = .pt 1 0 1) → (dB6 = true → dQ6 = .sl 2 a1) → (dB2 = true → dB1 = true) → (dB6 = true → dB5 = true) → cntF [true, dB1, dB2, false, true, dB5, dB6, false, false, false] = dn → dwp T ⟨Real Tryz.prog, RealM Tryz.prog, RealC Tryz.prog⟩ dR dK dn [true, dB1, dB2, false, true, dB5, dB6, false, false, false] ({ sl := [.agg [.sl 1 a0, .sl 2 a1], .pt 1 0 0, .pt 2 0 0, .own 3, dQ1, dQ2, .bad, .own 7, dQ5, dQ6, .bad, .bad], bl := [(1, ⟨.var, 2, [[.sl 1 a0, .sl 2 a1]]⟩), (2, ⟨.var, 2, [[.zc, .zc]]⟩), (3, ⟨.arr, 1, []⟩), (7, ⟨.arr, 2, []⟩)] } : St) := by
   intro dn
   induction dn with
   | zero =>
    intro dB1 dB2 dB5 dB6 dQ1 dQ2 dQ5 dQ6 dh1 dh2 dh5 dh6 a4 a3 dhn
    exact absurd (show false = true from cntF_zero  _ dhn 3 (by show 3 < 10; decide)) (by decide)
   | succ dn ih =>
    intro dB1 dB2 dB5 dB6 dQ1 dQ2 dQ5 dQ6 dh1 dh2 dh5 dh6 a4 a3 dhn
    subst dhR
    refine dwp_next (is := [0, 1, 2, 3, 4, 5, 6, 7, 8, 9]) rfl ?_
    refine allRdy_none rfl ?_
    refine allRdy_q rfl rfl (fun h0 h1 => ?_) ?_
    ·
     cases (show dB1 = false from h0)
     refine ra hA 1 (by cbv) ?_
     exact ops_done (dwp_to [] (by cbv) rfl (ih true dB2 dB5 dB6 (.pt 1 0 0) (dQ2) (dQ5) (dQ6) (fun _ => rfl) dh2 dh5 dh6 (fun _ => rfl) a3 (cnt_dec h0 (by show 1 < 10; decide) dhn)))
    refine allRdy_q rfl rfl (fun h0 h1 => ?_) ?_
    ·
     cases (show dB2 = false from h0)
     obtain rfl : dB1 = true := h1.1
     obtain rfl := dh1 rfl
     refine ra hA 1 (by cbv) ?_
     exact ops_done (dwp_to [] (by cbv) rfl (ih true true dB5 dB6 (.pt 1 0 0) (.sl 1 a0) (dQ5) (dQ6) (fun _ => rfl) (fun _ => rfl) dh5 dh6 (fun _ => rfl) a3 (cnt_dec h0 (by show 2 < 10; decide) dhn)))
    refine allRdy_q rfl rfl (fun h0 h1 => ?_) ?_
    ·
     obtain rfl : dB2 = true := h1.2.1
     obtain rfl := dh2 rfl
     obtain rfl : dB1 = true := a4 rfl
     obtain rfl := dh1 rfl
     refine ops_step rfl rfl (app_own rfl rfl rfl rfl rfl rfl rfl rfl hr1 (by cbv) (by cbv) (by cbv) rfl (by
      show (List.length ([]) + List.length a0) * _ ≤ _
      simp only [List.length_nil, List.length_map, Nat.zero_add, *]
      omega) (by decide) (by decide)) ?_
     exact ops_done (dwp_to [] (by rfl) rfl (d8 dn dB5 dB6 ((kill 3 dQ5)) ((kill 3 dQ6)) (fun h => by rw [dh5 h]; rfl) (fun h => by rw [dh6 h]; rfl) a3 (cnt_dec h0 (by show 3 < 10; decide) dhn)))
    refine allRdy_none rfl ?_
    refine allRdy_q rfl rfl (fun h0 h1 => ?_) ?_
    ·
     cases (show dB5 = false from h0)
     refine ra hA 1 (by cbv) ?_
     exact ops_done (dwp_to [] (by cbv) rfl (ih dB1 dB2 true dB6 (dQ1) (dQ2) (.pt 1 0 1) (dQ6) dh1 dh2 (fun _ => rfl) dh6 a4 (fun _ => rfl) (cnt_dec h0 (by show 5 < 10; decide) dhn)))
    refine allRdy_q rfl rfl (fun h0 h1 => ?_) ?_
    ·
     cases (show dB6 = false from h0)
     obtain rfl : dB5 = true := h1.1
     obtain rfl := dh5 rfl
     refine ra hA 1 (by cbv) ?_
     exact ops_done (dwp_to [] (by cbv) rfl (ih dB1 dB2 true true (dQ1) (dQ2) (.pt 1 0 1) (.sl 2 a1) dh1 dh2 (fun _ => rfl) (fun _ => rfl) a4 (fun _ => rfl) (cnt_dec h0 (by show 6 < 10; decide) dhn)))
    refine allRdy_q rfl rfl (fun _ h1 => absurd (show false = true from h1.2.2.1) (by decide)) ?_
    refine allRdy_q rfl rfl (fun _ h1 => absurd (show false = true from h1.1) (by decide)) ?_
    refine allRdy_q rfl rfl (fun _ h1 => absurd (show false = true from h1.1) (by decide)) ?_
    exact trivial
  have H_0 : ∀ (dn : Nat) (dB1 : Bool) (dB2 : Bool) (dB5 : Bool) (dB6 : Bool) (dQ1 : PV) (dQ2 : PV) (dQ5 : PV) (dQ6 : PV), (dB1 = true → dQ1 = .pt 1 0 0) → (dB2 = true → dQ2 = .sl 1 a0) → (dB5 = true → dQ5 = .pt 1 0 1) → (dB6 = true → dQ6 = .sl 2 a1) → (dB2 = true → dB1 = true) → (dB6 = true → dB5 = true) → cntF [true, dB1, dB2, false, false, dB5, dB6, false, false, false] = dn → dwp T ⟨Real Tryz.prog, RealM Tryz.prog, RealC Tryz.prog⟩ dR dK dn [true, dB1, dB2, false, false, dB5, dB6, false, false, false] ({ sl := [.agg [.sl 1 a0, .sl 2 a1], .pt 1 0 0, .pt 2 0 0, .own 3, dQ1, dQ2, .bad, .bad, dQ5, dQ6, .bad, .bad], bl := [(1, ⟨.var, 2, [[.sl 1 a0, .sl 2 a1]]⟩), (2, ⟨.var, 2, [[.zc, .zc]]⟩), (3, ⟨.arr, 1, []⟩)] } : St) := by
   intro dn
   induction dn with
   | zero =>
    intro dB1 dB2 dB5 dB6 dQ1 dQ2 dQ5 dQ6 dh1 dh2 dh5 dh6 a4 a3 dhn
    exact absurd (show false = true from cntF_zero  _ dhn 3 (by show 3 < 10; decide)) (by decide)
   | succ dn ih =>
    intro dB1 dB2 dB5 dB6 dQ1 dQ2 dQ5 dQ6 dh1 dh2 dh5 dh6 a4 a3 dhn
    subst dhR
    refine dwp_next (is := [0, 1, 2, 3, 4, 5, 6, 7, 8, 9]) rfl ?_
    refine allRdy_none rfl ?_
    refine allRdy_q rfl rfl (fun h0 h1 => ?_) ?_
    ·
     cases (show dB1 = false from h0)
     refine ra hA 1 (by cbv) ?_
     exact ops_done (dwp_to [] (by cbv) rfl (ih true dB2 dB5 dB6 (.pt 1 0 0) (dQ2) (dQ5) (dQ6) (fun _ => rfl) dh2 dh5 dh6 (fun _ => rfl) a3 (cnt_dec h0 (by show 1 < 10; decide) dhn)))
    refine allRdy_q rfl rfl (fun h0 h1 => ?_) ?_
    ·
     cases (show dB2 = false from h0)
     obtain rfl : dB1 = true := h1.1
     obtain rfl := dh1 rfl
     refine ra hA 1 (by cbv) ?_
     exact ops_done (dwp_to [] (by cbv) rfl (ih true true dB5 dB6 (.pt 1 0 0) (.sl 1 a0) (dQ5) (dQ6) (fun _ => rfl) (fun _ => rfl) dh5 dh6 (fun _ => rfl) a3 (cnt_dec h0 (by show 2 < 10; decide) dhn)))
    refine allRdy_q rfl rfl (fun h0 h1 => ?_) ?_
    ·
     obtain rfl : dB2 = true := h1.2.1
     obtain rfl := dh2 rfl
     obtain rfl : dB1 = true := a4 rfl
     obtain rfl := dh1 rfl
     refine ops_step rfl rfl (app_own rfl rfl rfl rfl rfl rfl rfl rfl hr1 (by cbv) (by cbv) (by cbv) rfl (by
      show (List.length ([]) + List.length a0) * _ ≤ _
      simp only [List.length_nil, List.length_map, Nat.zero_add, *]
      omega) (by decide) (by decide)) ?_
     exact ops_done (dwp_to [] (by rfl) rfl (f2 dn dB5 dB6 ((kill 3 dQ5)) ((kill 3 dQ6)) (fun h => by rw [dh5 h]; rfl) (fun h => by rw [dh6 h]; rfl) a3 (cnt_dec h0 (by show 3 < 10; decide) dhn)))
    refine allRdy_q rfl rfl (fun h0 h1 => ?_) ?_
    ·
     refine ra hA 1 (by cbv) ?_
     exact ops_done (dwp_to [.up 7, .up 3, .up 2, .up 1] (by cbv) rfl (e7 dn dB1 dB2 dB5 dB6 (dQ1) (dQ2) (dQ5) (dQ6) dh1 dh2 dh5 dh6 a4 a3 (cnt_dec h0 (by show 4 < 10; decide) dhn)))
    refine allRdy_q rfl rfl (fun h0 h1 => ?_) ?_
    ·
     cases (show dB5 = false from h0)
     refine ra hA 1 (by cbv) ?_
     exact ops_done (dwp_to [] (by cbv) rfl (ih dB1 dB2 true dB6 (dQ1) (dQ2) (.pt 1 0 1) (dQ6) dh1 dh2 (fun _ => rfl) dh6 a4 (fun _ => rfl) (cnt_dec h0 (by show 5 < 10; decide) dhn)))
    refine allRdy_q rfl rfl (fun h0 h1 => ?_) ?_
    ·
     cases (show dB6 = false from h0)
     obtain rfl : dB5 = true := h1.1
     obtain rfl := dh5 rfl
     refine ra hA 1 (by cbv) ?_
     exact ops_done (dwp_to [] (by cbv) rfl (ih dB1 dB2 true true (dQ1) (dQ2) (.pt 1 0 1) (.sl 2 a1) dh1 dh2 (fun _ => rfl) (fun _ => rfl) a4 (fun _ => rfl) (cnt_dec h0 (by show 6 < 10; decide) dhn)))
    refine allRdy_q rfl rfl (fun _ h1 => absurd (show false = true from h1.1) (by decide)) ?_
    refine allRdy_q rfl rfl (fun _ h1 => absurd (show false = true from h1.1) (by decide)) ?_
    refine allRdy_q rfl rfl (fun _ h1 => absurd (show false = true from h1.1) (by decide)) ?_
    exact trivial
  have H_4 : ∀ (dn : Nat) (dB1 : Bool) (dB2 : Bool) (dB5 : Bool) (dB6 : Bool) (dQ1 : PV) (dQ2 : PV) (dQ5 : PV) (dQ6 : PV), (dB1 = true → dQ1 = .pt 1 0 0) → (dB2 = true → dQ2 = .sl 1 a0) → (dB5 = true → dQ5 = .pt 1 0 1) → (dB6 = true → dQ6 = .sl 2 a1) → (dB2 = true → dB1 = true) → (dB6 = true → dB5 = true) → cntF [false, dB1, dB2, false, true, dB5, dB6, false, false, false] = dn → dwp T ⟨Real Tryz.prog, RealM Tryz.prog, RealC Tryz.prog⟩ dR dK dn [false, dB1, dB2, false, true, dB5, dB6, false, false, false] ({ sl := [.agg [.sl 1 a0, .sl 2 a1], .pt 1 0 0, .pt 2 0 0, .bad, dQ1, dQ2, .bad, .own 7, dQ5, dQ6, .bad, .bad], bl := [(1, ⟨.var, 2, [[.sl 1 a0, .sl 2 a1]]⟩), (2, ⟨.var, 2, [[.zc, .zc]]⟩), (7, ⟨.arr, 2, []⟩)] } : St) := by
   intro dn
   induction dn with
   | zero =>
    intro dB1 dB2 dB5 dB6 dQ1 dQ2 dQ5 dQ6 dh1 dh2 dh5 dh6 a4 a3 dhn
    exact absurd (show false = true from cntF_zero  _ dhn 0 (by show 0 < 10; decide)) (by decide)
   | succ dn ih =>
    intro dB1 dB2 dB5 dB6 dQ1 dQ2 dQ5 dQ6 dh1 dh2 dh5 dh6 a4 a3 dhn
    subst dhR
    refine dwp_next (is := [0, 1, 2, 3, 4, 5, 6, 7, 8, 9]) rfl ?_
    refine allRdy_q rfl rfl (fun h0 h1 => ?_) ?_
    ·
     refine ra hA 1 (by cbv) ?_
     exact ops_done (dwp_to [.up 7, .up 3, .up 2, .up 1] (by cbv) rfl (e7 dn dB1 dB2 dB5 dB6 (dQ1) (dQ2) (dQ5) (dQ6) dh1 dh2 dh5 dh6 a4 a3 (cnt_dec h0 (by show 0 < 10; decide) dhn)))
    refine allRdy_q rfl rfl (fun h0 h1 => ?_) ?_
    ·
     cases (show dB1 = false from h0)
     refine ra hA 1 (by cbv) ?_
     exact ops_done (dwp_to [] (by cbv) rfl (ih true dB2 dB5 dB6 (.pt 1 0 0) (dQ2) (dQ5) (dQ6) (fun _ => rfl) dh2 dh5 dh6 (fun _ => rfl) a3 (cnt_dec h0 (by show 1 < 10; decide) dhn)))
    refine allRdy_q rfl rfl (fun h0 h1 => ?_) ?_
    ·
     cases (show dB2 = false from h0)
     obtain rfl : dB1 = true := h1.1
     obtain rfl := dh1 rfl
     refine ra hA 1 (by cbv) ?_
     exact ops_done (dwp_to [] (by cbv) rfl (ih true true dB5 dB6 (.pt 1 0 0) (.sl 1 a0) (dQ5) (dQ6) (fun _ => rfl) (fun _ => rfl) dh5 dh6 (fun _ => rfl) a3 (cnt_dec h0 (by show 2 < 10; decide) dhn)))
    refine allRdy_q rfl rfl (fun _ h1 => absurd (show false = true from h1.1) (by decide)) ?_
    refine allRdy_none rfl ?_
    refine allRdy_q rfl rfl (fun h0 h1 => ?_) ?_
    ·
     cases (show dB5 = false from h0)
     refine ra hA 1 (by cbv) ?_
     exact ops_done (dwp_to [] (by cbv) rfl (ih dB1 dB2 true dB6 (dQ1) (dQ2) (.pt 1 0 1) (dQ6) dh1 dh2 (fun _ => rfl) dh6 a4 (fun _ => rfl) (cnt_dec h0 (by show 5 < 10; decide) dhn)))
    refine allRdy_q rfl rfl (fun h0 h1 => ?_) ?_
    ·
     cases (show dB6 = false from h0)
     obtain rfl : dB5 = true := h1.1
     obtain rfl := dh5 rfl
     refine ra hA 1 (by cbv) ?_
     exact ops_done (dwp_to [] (by cbv) rfl (ih dB1 dB2 true true (dQ1) (dQ2) (.pt 1 0 1) (.sl 2 a1) dh1 dh2 (fun _ => rfl) (fun _ => rfl) a4 (fun _ => rfl) (cnt_dec h0 (by show 6 < 10; decide) dhn)))
    refine allRdy_q rfl rfl (fun _ h1 => absurd (show false = true from h1.2.2.1) (by decide)) ?_
    refine allRdy_q rfl rfl (fun _ h1 => absurd (show false = true from h1.1) (by decide)) ?_
    refine allRdy_q rfl rfl (fun _ h1 => absurd (show false = true from h1.1) (by decide)) ?_
    exact trivial
  have H_ : ∀ (dn : Nat) (dB1 : Bool) (dB2 : Bool) (dB5 : Bool) (dB6 : Bool) (dQ1 : PV) (dQ2 : PV) (dQ5 : PV) (dQ6 : PV), (dB1 = true → dQ1 = .pt 1 0 0) → (dB2 = true → dQ2 = .sl 1 a0) → (dB5 = true → dQ5 = .pt 1 0 1) → (dB6 = true → dQ6 = .sl 2 a1) → (dB2 = true → dB1 = true) → (dB6 = true → dB5 = true) → cntF [false, dB1, dB2, false, false, dB5, dB6, false, false, false] = dn → dwp T ⟨Real Tryz.prog, RealM Tryz.prog, RealC Tryz.prog⟩ dR dK dn [false, dB1, dB2, false, false, dB5, dB6, false, false, false] ({ sl := [.agg [.sl 1 a0, .sl 2 a1], .pt 1 0 0, .pt 2 0 0, .bad, dQ1, dQ2, .bad, .bad, dQ5, dQ6, .bad, .bad], bl := [(1, ⟨.var, 2, [[.sl 1 a0, .sl 2 a1]]⟩), (2, ⟨.var, 2, [[.zc, .zc]]⟩)] } : St) := by
   intro dn
   induction dn with
   | zero =>
    intro dB1 dB2 dB5 dB6 dQ1 dQ2 dQ5 dQ6 dh1 dh2 dh5 dh6 a4 a3 dhn
    exact absurd (show false = true from cntF_zero  _ dhn 0 (by show 0 < 10; decide)) (by decide)
   | succ dn ih =>
    intro dB1 dB2 dB5 dB6 dQ1 dQ2 dQ5 dQ6 dh1 dh2 dh5 dh6 a4 a3 dhn
    subst dhR
    refine dwp_next (is := [0, 1, 2, 3, 4, 5, 6, 7, 8, 9]) rfl ?_
    refine allRdy_q rfl rfl (fun h0 h1 => ?_) ?_
    ·
     refine ra hA 1 (by cbv) ?_
     exact ops_done (dwp_to [.up 3, .up 2, .up 1] (by cbv) rfl (H_0 dn dB1 dB2 dB5 dB6 (dQ1) (dQ2) (dQ5) (dQ6) dh1 dh2 dh5 dh6 a4 a3 (cnt_dec h0 (by show 0 < 10; decide) dhn)))
    refine allRdy_q rfl rfl (fun h0 h1 => ?_) ?_
    ·
     cases (show dB1 = false from h0)
     refine ra hA 1 (by cbv) ?_
     exact ops_done (dwp_to [] (by cbv) rfl (ih true dB2 dB5 dB6 (.pt 1 0 0) (dQ2) (dQ5) (dQ6) (fun _ => rfl) dh2 dh5 dh6 (fun _ => rfl) a3 (cnt_dec h0 (by show 1 < 10; decide) dhn)))
    refine allRdy_q rfl rfl (fun h0 h1 => ?_) ?_
    ·
     cases (show dB2 = false from h0)
     obtain rfl : dB1 = true := h1.1
     obtain rfl := dh1 rfl
     refine ra hA 1 (by cbv) ?_
     exact ops_done (dwp_to [] (by cbv) rfl (ih true true dB5 dB6 (.pt 1 0 0) (.sl 1 a0) (dQ5) (dQ6) (fun _ => rfl) (fun _ => rfl) dh5 dh6 (fun _ => rfl) a3 (cnt_dec h0 (by show 2 < 10; decide) dhn)))
    refine allRdy_q rfl rfl (fun _ h1 => absurd (show false = true from h1.1) (by decide)) ?_
    refine allRdy_q rfl rfl (fun h0 h1 => ?_) ?_
    ·
     refine ra hA 1 (by cbv) ?_
     exact ops_done (dwp_to [.up 7, .up 2, .up 1] (by cbv) rfl (H_4 dn dB1 dB2 dB5 dB6 (dQ1) (dQ2) (dQ5) (dQ6) dh1 dh2 dh5 dh6 a4 a3 (cnt_dec h0 (by show 4 < 10; decide) dhn)))
    refine allRdy_q rfl rfl (fun h0 h1 => ?_) ?_
    ·
     cases (show dB5 = false from h0)
     refine ra hA 1 (by cbv) ?_
     exact ops_done (dwp_to [] (by cbv) rfl (ih dB1 dB2 true dB6 (dQ1) (dQ2) (.pt 1 0 1) (dQ6) dh1 dh2 (fun _ => rfl) dh6 a4 (fun _ => rfl) (cnt_dec h0 (by show 5 < 10; decide) dhn)))
    refine allRdy_q rfl rfl (fun h0 h1 => ?_) ?_
    ·
     cases (show dB6 = false from h0)
     obtain rfl : dB5 = true := h1.1
     obtain rfl := dh5 rfl
     refine ra hA 1 (by cbv) ?_
     exact ops_done (dwp_to [] (by cbv) rfl (ih dB1 dB2 true true (dQ1) (dQ2) (.pt 1 0 1) (.sl 2 a1) dh1 dh2 (fun _ => rfl) (fun _ => rfl) a4 (fun _ => rfl) (cnt_dec h0 (by show 6 < 10; decide) dhn)))
    refine allRdy_q rfl rfl (fun _ h1 => absurd (show false = true from h1.1) (by decide)) ?_
    refine allRdy_q rfl rfl (fun _ h1 => absurd (show false = true from h1.1) (by decide)) ?_
    refine allRdy_q rfl rfl (fun _ h1 => absurd (show false = true from h1.1) (by decide)) ?_
    exact trivial
  exact dwp_to [.up 2, .up 1] (by cbv) rfl (H_ 10 false false false false (.bad) (.bad) (.bad) (.bad) (fun h => absurd h (by decide)) (fun h => absurd h (by decide)) (fun h => absurd h (by decide)) (fun h => absurd h (by decide)) (fun h => absurd h (by decide)) (fun h => absurd h (by decide)) rfl)
 refine go_ret ⟨_, by cbv, ?_⟩
 show _ = (PV.agg [.ow 1 r1, .ow 2 r2])
 simp only [er1, er2, List.nil_append]
 rfl
theorem r_impl_cloneDisk (A : Alg) (hA : A = std) (x : GDisk) (hz : ∀ k ∈ zsDisk x, k ≤ 1048576) : Real Tryz.prog 110 [.agg (eDisk x)] (.agg (eoDisk x)) := by
 obtain ⟨a8, b2⟩ := x
 obtain ⟨a0, a6⟩ := nm (a8.map eString)
 have d3 := rlen_map hA a6
 obtain ⟨a1, a9⟩ := nm (b2.map eWrite)
 have e1 := rlen_map hA a9
 refine real_args (args' := [.agg [.sl 1 a0, .sl 2 a1]]) (by subst a6 a9; rfl) ?_
 have n0 : List.length a8 ≤ 1048576 := hz _ (by simp [zsDisk, zsStringS, zsWriteS])
 have n1 : List.length b2 ≤ 1048576 := hz _ (by simp [zsDisk, zsStringS, zsWriteS])
 refine real tyOk Tryz.func110 (by kernel_rfl) (afun_of rfl ?_)
 refine gs (gr (ra hA 2 (by cbv) (od ?_)))
 refine gs ?_
 obtain ⟨a5, b3, hc2⟩ : ∃ (a5 : RR), a5 = List.map eString a8 ∧ Real Tryz.prog 150 [.sl 1 a0] (.ow 1 a5) := ⟨_, rfl, by subst a6; exact r_Clone_String A hA a8 (by omega)⟩
 have d9 := rlen_map hA b3
 obtain ⟨c5, e6, hc4⟩ : ∃ (c5 : RR), c5 = List.map eoWrite b2 ∧ Real Tryz.prog 151 [.sl 2 a1] (.ow 2 c5) := ⟨_, rfl, by subst a9; exact r_Clone_Write A hA b2 (by omega)⟩
 have f6 := rlen_map hA e6
 refine go_drawE (by cbv) rfl rfl ({ sl := [.agg [.sl 1 a0, .sl 2 a1], .pt 1 0 0, .pt 2 0 0, .pt 1 0 0, .sl 1 a0, .own 5, .pt 1 0 1, .sl 2 a1, .own 8, .agg [.own 5, .own 8]], bl := [(1, ⟨.var, 2, [[.sl 1 a0, .sl 2 a1]]⟩), (2, ⟨.var, 2, [[.own 5, .own 8]]⟩), (5, ⟨.arr, 1, a5⟩), (8, ⟨.arr, 2, c5⟩)] } : St) (fun dR dK dhR dhF => ?_) ?_
 ·
  have e8 : ∀ (dn : Nat), cntF [true, true, true, true, true, true, true, true] = dn → dwp T ⟨Real Tryz.prog, RealM Tryz.prog, RealC Tryz.prog⟩ dR dK dn [true, true, true, true, true, true, true, true] ({ sl := [.agg [.sl 1 a0, .sl 2 a1], .pt 1 0 0, .pt 2 0 0, .pt 1 0 0, .sl 1 a0, .own 5, .pt 1 0 1, .sl 2 a1, .own 8, .agg [.own 5, .own 8]], bl := [(1, ⟨.var, 2, [[.sl 1 a0, .sl 2 a1]]⟩), (2, ⟨.var, 2, [[.own 5, .own 8]]⟩), (5, ⟨.arr, 1, a5⟩), (8, ⟨.arr, 2, c5⟩)] } : St) := by
   intro dn
   induction dn with
   | zero =>
    intro  dhn
    exact dwp_last dhF
   | succ dn ih =>
    intro  dhn
    subst dhR
    refine dwp_next (is := [0, 1, 2, 3, 4, 5, 6, 7]) rfl ?_
    refine allRdy_none rfl ?_
    refine allRdy_none rfl ?_
    refine allRdy_none rfl ?_
    refine allRdy_none rfl ?_
    refine allRdy_none rfl ?_
    refine allRdy_none rfl ?_
    refine allRdy_none rfl ?_
    refine allRdy_none rfl ?_
    exact trivial
  have f0 : ∀ (dn : Nat) (dB6 : Bool) (dQ6 : PV), (dB6 = true → dQ6 = .agg [.own 5, .own 8]) → cntF [true, true, true, true, true, true, dB6, false] = dn → dwp T ⟨Real Tryz.prog, RealM Tryz.prog, RealC Tryz.prog⟩ dR dK dn [true, true, true, true, true, true, dB6, false] ({ sl := [.agg [.sl 1 a0, .sl 2 a1], .pt 1 0 0, .pt 2 0 0, .pt 1 0 0, .sl 1 a0, .own 5, .pt 1 0 1, .sl 2 a1, .own 8, dQ6], bl := [(1, ⟨.var, 2, [[.sl 1 a0, .sl 2 a1]]⟩), (2, ⟨.var, 2, [[.zc, .zc]]⟩), (5, ⟨.arr, 1, a5⟩), (8, ⟨.arr, 2, c5⟩)] } : St) := by
   intro dn
   induction dn with
   | zero =>
    intro dB6 dQ6 dh6 dhn
    exact absurd (show false = true from cntF_zero  _ dhn 7 (by show 7 < 8; decide)) (by decide)
   | succ dn ih =>
    intro dB6 dQ6 dh6 dhn
    subst dhR
    refine dwp_next (is := [0, 1, 2, 3, 4, 5, 6, 7]) rfl ?_
    refine allRdy_none rfl ?_
    refine allRdy_none rfl ?_
    refine allRdy_none rfl ?_
    refine allRdy_none rfl ?_
    refine allRdy_none rfl ?_
    refine allRdy_none rfl ?_
    refine allRdy_q rfl rfl (fun h0 h1 => ?_) ?_
    ·
     cases (show dB6 = false from h0)
     refine ra hA 1 (by cbv) ?_
     exact ops_done (dwp_to [] (by cbv) rfl (ih true (.agg [.own 5, .own 8]) (fun _ => rfl) (cnt_dec h0 (by show 6 < 8; decide) dhn)))
    refine allRdy_q rfl rfl (fun h0 h1 => ?_) ?_
    ·
     obtain rfl : dB6 = true := h1.1
     obtain rfl := dh6 rfl
     refine ra hA 1 (by cbv) ?_
     exact ops_done (dwp_to [] (by cbv) rfl (e8 dn (cnt_dec h0 (by show 7 < 8; decide) dhn)))
    exact trivial
  have H_2 : ∀ (dn : Nat) (dB3 : Bool) (dB4 : Bool) (dQ3 : PV) (dQ4 : PV), (dB3 = true → dQ3 = .pt 1 0 1) → (dB4 = true → dQ4 = .sl 2 a1) → (dB4 = true → dB3 = true) → cntF [true, true, true, dB3, dB4, false, false, false] = dn → dwp T ⟨Real Tryz.prog, RealM Tryz.prog, RealC Tryz.prog⟩ dR dK dn [true, true, true, dB3, dB4, false, false, false] ({ sl := [.agg [.sl 1 a0, .sl 2 a1], .pt 1 0 0, .pt 2 0 0, .pt 1 0 0, .sl 1 a0, .own 5, dQ3, dQ4, .bad, .bad], bl := [(1, ⟨.var, 2, [[.sl 1 a0, .sl 2 a1]]⟩), (2, ⟨.var, 2, [[.zc, .zc]]⟩), (5, ⟨.arr, 1, a5⟩)] } : St) := by
   intro dn
   induction dn with
   | zero =>
    intro dB3 dB4 dQ3 dQ4 dh3 dh4 b8 dhn
    exact absurd (show false = true from cntF_zero  _ dhn 5 (by show 5 < 8; decide)) (by decide)
   | succ dn ih =>
    intro dB3 dB4 dQ3 dQ4 dh3 dh4 b8 dhn
    subst dhR
    refine dwp_next (is := [0, 1, 2, 3, 4, 5, 6, 7]) rfl ?_
    refine allRdy_none rfl ?_
    refine allRdy_none rfl ?_
    refine allRdy_none rfl ?_
    refine allRdy_q rfl rfl (fun h0 h1 => ?_) ?_
    ·
     cases (show dB3 = false from h0)
     refine ra hA 1 (by cbv) ?_
     exact ops_done (dwp_to [] (by cbv) rfl (ih true dB4 (.pt 1 0 1) (dQ4) (fun _ => rfl) dh4 (fun _ => rfl) (cnt_dec h0 (by show 3 < 8; decide) dhn)))
    refine allRdy_q rfl rfl (fun h0 h1 => ?_) ?_
    ·
     cases (show dB4 = false from h0)
     obtain rfl : dB3 = true := h1.1
     obtain rfl := dh3 rfl
     refine ra hA 1 (by cbv) ?_
     exact ops_done (dwp_to [] (by cbv) rfl (ih true true (.pt 1 0 1) (.sl 2 a1) (fun _ => rfl) (fun _ => rfl) (fun _ => rfl) (cnt_dec h0 (by show 4 < 8; decide) dhn)))
    refine allRdy_q rfl rfl (fun h0 h1 => ?_) ?_
    ·
     obtain rfl : dB4 = true := h1.1
     obtain rfl := dh4 rfl
     obtain rfl : dB3 = true := b8 rfl
     obtain rfl := dh3 rfl
     refine ops_callV rfl rfl (by cbv) (by cbv) hc4 (.inr rfl) (by cbv) ?_
     exact ops_done (dwp_to [.up 8, .up 5, .up 2, .up 1] (by cbv) rfl (f0 dn false (.bad) (fun h => absurd h (by decide)) (cnt_dec h0 (by show 5 < 8; decide) dhn)))
    refine allRdy_q rfl rfl (fun _ h1 => absurd (show false = true from h1.2.1) (by decide)) ?_
    refine allRdy_q rfl rfl (fun _ h1 => absurd (show false = true from h1.1) (by decide)) ?_
    exact trivial
  have H_ : ∀ (dn : Nat) (dB0 : Bool) (dB1 : Bool) (dB3 : Bool) (dB4 : Bool) (dQ0 : PV) (dQ1 : PV) (dQ3 : PV) (dQ4 : PV), (dB0 = true → dQ0 = .pt 1 0 0) → (dB1 = true → dQ1 = .sl 1 a0) → (dB3 = true → dQ3 = .pt 1 0 1) → (dB4 = true → dQ4 = .sl 2 a1) → (dB1 = true → dB0 = true) → (dB4 = true → dB3 = true) → cntF [dB0, dB1, false, dB3, dB4, false, false, false] = dn → dwp T ⟨Real Tryz.prog, RealM Tryz.prog, RealC Tryz.prog⟩ dR dK dn [dB0, dB1, false, dB3, dB4, false, false, false] ({ sl := [.agg [.sl 1 a0, .sl 2 a1], .pt 1 0 0, .pt 2 0 0, dQ0, dQ1, .bad, dQ3, dQ4, .bad, .bad], bl := [(1, ⟨.var, 2, [[.sl 1 a0, .sl 2 a1]]⟩), (2, ⟨.var, 2, [[.zc, .zc]]⟩)] } : St) := by
   intro dn
   induction dn with
   | zero =>
    intro dB0 dB1 dB3 dB4 dQ0 dQ1 dQ3 dQ4 dh0 dh1 dh3 dh4 d2 b8 dhn
    exact absurd (show false = true from cntF_zero  _ dhn 2 (by show 2 < 8; decide)) (by decide)
   | succ dn ih =>
    intro dB0 dB1 dB3 dB4 dQ0 dQ1 dQ3 dQ4 dh0 dh1 dh3 dh4 d2 b8 dhn
    subst dhR
    refine dwp_next (is := [0, 1, 2, 3, 4, 5, 6, 7]) rfl ?_
    refine allRdy_q rfl rfl (fun h0 h1 => ?_) ?_
    ·
     cases (show dB0 = false from h0)
     refine ra hA 1 (by cbv) ?_
     exact ops_done (dwp_to [] (by cbv) rfl (ih true dB1 dB3 dB4 (.pt 1 0 0) (dQ1) (dQ3) (dQ4) (fun _ => rfl) dh1 dh3 dh4 (fun _ => rfl) b8 (cnt_dec h0 (by show 0 < 8; decide) dhn)))
    refine allRdy_q rfl rfl (fun h0 h1 => ?_) ?_
    ·
     cases (show dB1 = false from h0)
     obtain rfl : dB0 = true := h1.1
     obtain rfl := dh0 rfl
     refine ra hA 1 (by cbv) ?_
     exact ops_done (dwp_to [] (by cbv) rfl (ih true true dB3 dB4 (.pt 1 0 0) (.sl 1 a0) (dQ3) (dQ4) (fun _ => rfl) (fun _ => rfl) dh3 dh4 (fun _ => rfl) b8 (cnt_dec h0 (by show 1 < 8; decide) dhn)))
    refine allRdy_q rfl rfl (fun h0 h1 => ?_) ?_
    ·
     obtain rfl : dB1 = true := h1.1
     obtain rfl := dh1 rfl
     obtain rfl : dB0 = true := d2 rfl
     obtain rfl := dh0 rfl
     refine ops_callV rfl rfl (by cbv) (by cbv) hc2 (.inr rfl) (by cbv) ?_
     exact ops_done (dwp_to [.up 5, .up 2, .up 1] (by cbv) rfl (H_2 dn dB3 dB4 (dQ3) (dQ4) dh3 dh4 b8 (cnt_dec h0 (by show 2 < 8; decide) dhn)))
    refine allRdy_q rfl rfl (fun h0 h1 => ?_) ?_
    ·
     cases (show dB3 = false from h0)
     refine ra hA 1 (by cbv) ?_
     exact ops_done (dwp_to [] (by cbv) rfl (ih dB0 dB1 true dB4 (dQ0) (dQ1) (.pt 1 0 1) (dQ4) dh0 dh1 (fun _ => rfl) dh4 d2 (fun _ => rfl) (cnt_dec h0 (by show 3 < 8; decide) dhn)))
    refine allRdy_q rfl rfl (fun h0 h1 => ?_) ?_
    ·
     cases (show dB4 = false from h0)
     obtain rfl : dB3 = true := h1.1
     obtain rfl := dh3 rfl
     refine ra hA 1 (by cbv) ?_
     exact ops_done (dwp_to [] (by cbv) rfl (ih dB0 dB1 true true (dQ0) (dQ1) (.pt 1 0 1) (.sl 2 a1) dh0 dh1 (fun _ => rfl) (fun _ => rfl) d2 (fun _ => rfl) (cnt_dec h0 (by show 4 < 8; decide) dhn)))
    refine allRdy_q rfl rfl (fun _ h1 => absurd (show false = true from h1.2.1) (by decide)) ?_
    refine allRdy_q rfl rfl (fun _ h1 => absurd (show false = true from h1.1) (by decide)) ?_
    refine allRdy_q rfl rfl (fun _ h1 => absurd (show false = true from h1.1) (by decide)) ?_
    exact trivial
  exact dwp_to [.up 2, .up 1] (by cbv) rfl (H_ 8 false false false false (.bad) (.bad) (.bad) (.bad) (fun h => absurd h (by decide)) (fun h => absurd h (by decide)) (fun h => absurd h (by decide)) (fun h => absurd h (by decide)) (fun h => absurd h (by decide)) (fun h => absurd h (by decide)) rfl)
 refine go_ret ⟨_, by cbv, ?_⟩
 show _ = (PV.agg [.ow 1 a5, .ow 2 c5])
 simp only [b3, e6, List.nil_append]
 rfl
theorem r_spec_l21Copy (A : Alg) (hA : A = std) (x : GLook) (hz : ∀ k ∈ zsLook x, k ≤ 1048576) : Real Tryz.prog 92 [.agg (eLook x)] (.agg (eoLook x)) := by
 obtain ⟨a7, b5, c7, b7, b6⟩ := x
 obtain ⟨b4, b0⟩ := nm (b6.map eInt)
 have e5 := rlen_map hA b0
 refine real_args (args' := [.agg [.int .i64 a7, .str b5, .str c7, .int .i64 b7, .sl 1 b4]]) (by subst b0; rfl) ?_
 have n0 : List.length b6 ≤ 1048576 := hz _ (by simp [zsLook, zsIntS])
 refine real tyOk Tryz.func92 (by kernel_rfl) (afun_of rfl ?_)
 refine gs (gr (ra hA 2 (by cbv) (od ?_)))
 refine gs (gr (ra hA 3 (by cbv) (od ?_)))
 refine gs (gr (ra hA 3 (by cbv) ?_))
 obtain ⟨r1, hr1⟩ := nm (([]) ++ b4 : RR)
 have er1 : r1 = List.map eInt (([]) ++ b6) := by rw [hr1]; exact app_eq rfl b0
 have lr1 := rlen_map hA er1
 refine ops_step rfl rfl (app_own rfl rfl rfl rfl rfl rfl rfl rfl hr1 (by cbv) (by cbv) (by cbv) rfl (by
  show (List.length ([]) + List.length b4) * _ ≤ _
  simp only [List.length_nil, List.length_map, Nat.zero_add, *]
  omega) (by decide) (by decide)) ?_
 refine ra hA 2 (by cbv) (od ?_)
 refine gs (gr (ra hA 2 (by cbv) (od ?_)))
 refine go_ret ⟨_, by cbv, ?_⟩
 show _ = (PV.agg [.int .i64 a7, .str b5, .str c7, .int .i64 b7, .ow 1 r1])
 simp only [er1, List.nil_append]
 rfl
theorem r_impl_cloneBring (A : Alg) (hA : A = std) (x : GBring) (hz : ∀ k ∈ zsBring x, k ≤ 1048576) : Real Tryz.prog 136 [.agg (eBring x)] (.agg (eoBring x)) := by
 obtain ⟨a7, e3, e0, c8⟩ := x
 obtain ⟨e4, d0⟩ := nm (e0.map eString)
 have f5 := rlen_map hA d0
 obtain ⟨d5, c3⟩ := nm (c8.map eString)
 have f4 := rlen_map hA c3
 refine real_args (args' := [.agg [.int .i64 a7, .str e3, .sl 1 e4, .sl 1 d5]]) (by subst d0 c3; rfl) ?_
 have n0 : List.length e0 ≤ 1048576 := hz _ (by simp [zsBring, zsStringS])
 have n1 : List.length c8 ≤ 1048576 := hz _ (by simp [zsBring, zsStringS])
 refine real tyOk Tryz.func136 (by kernel_rfl) (afun_of rfl ?_)
 refine gs (gr (ra hA 2 (by cbv) (od ?_)))
 refine gs (gr (ra hA 2 (by cbv) ?_))
 obtain ⟨a5, b3, hc2⟩ : ∃ (a5 : RR), a5 = List.map eString e0 ∧ Real Tryz.prog 150 [.sl 1 e4] (.ow 1 a5) := ⟨_, rfl, by subst d0; exact r_Clone_String A hA e0 (by omega)⟩
 have d9 := rlen_map hA b3
 refine ops_callV rfl rfl (by cbv) (by cbv) hc2 (.inr rfl) (by cbv) ?_
 refine ra hA 2 (by cbv) (od ?_)
 refine gs (gr (ra hA 2 (by cbv) ?_))
 obtain ⟨c0, c6, hc4⟩ : ∃ (c0 : RR), c0 = List.map eString c8 ∧ Real Tryz.prog 150 [.sl 1 d5] (.ow 1 c0) := ⟨_, rfl, by subst c3; exact r_Clone_String A hA c8 (by omega)⟩
 have f1 := rlen_map hA c6
 refine ops_callV rfl rfl (by cbv) (by cbv) hc4 (.inr rfl) (by cbv) ?_
 refine ra hA 2 (by cbv) (od ?_)
 refine gs (gr (ra hA 2 (by cbv) (od ?_)))
 refine go_ret ⟨_, by cbv, ?_⟩
 show _ = (PV.agg [.int .i64 a7, .str e3, .ow 1 a5, .ow 1 c0])
 simp only [b3, c6, List.nil_append]
 rfl
theorem r_impl_cloneFetch (A : Alg) (hA : A = std) (x : GFetch) (hz : ∀ k ∈ zsFetch x, k ≤ 1048576) : Real Tryz.prog 137 [.agg (eFetch x)] (.agg (eoFetch x)) := by
 obtain ⟨a7, b5, c4, c9⟩ := x
 obtain ⟨d1, b9⟩ := nm (c4.map eMail)
 have e9 := rlen_map hA b9
 obtain ⟨d4, c1⟩ := nm (c9.map eBool)
 have f3 := rlen_map hA c1
 refine real_args (args' := [.agg [.int .i64 a7, .str b5, .sl 3 d1, .sl 1 d4]]) (by subst b9 c1; rfl) ?_
 have n0 : List.length c4 ≤ 1048576 := hz _ (by simp [zsFetch, zsBoolS, zsMailS])
 have n1 : List.length c9 ≤ 1048576 := hz _ (by simp [zsFetch, zsBoolS, zsMailS])
 refine real tyOk Tryz.func137 (by kernel_rfl) (afun_of rfl ?_)
 refine gs (gr (ra hA 2 (by cbv) (od ?_)))
 refine gs (gr (ra hA 2 (by cbv) ?_))
 obtain ⟨a5, b3, hc2⟩ : ∃ (a5 : RR), a5 = List.map eoMail c4 ∧ Real Tryz.prog 176 [.sl 3 d1] (.ow 3 a5) := ⟨_, rfl, by subst b9; exact r_Clone_Mail A hA c4 (by omega)⟩
 have d9 := rlen_map hA b3
 refine ops_callV rfl rfl (by cbv) (by cbv) hc2 (.inr rfl) (by cbv) ?_
 refine ra hA 2 (by cbv) (od ?_)
 refine gs (gr (ra hA 2 (by cbv) ?_))
 obtain ⟨c0, c6, hc4⟩ : ∃ (c0 : RR), c0 = List.map eBool c9 ∧ Real Tryz.prog 177 [.sl 1 d4] (.ow 1 c0) := ⟨_, rfl, by subst c1; exact r_Clone_Bool A hA c9 (by omega)⟩
 have f1 := rlen_map hA c6
 refine ops_callV rfl rfl (by cbv) (by cbv) hc4 (.inr rfl) (by cbv) ?_
 refine ra hA 2 (by cbv) (od ?_)
 refine gs (gr (ra hA 2 (by cbv) (od ?_)))
 refine go_ret ⟨_, by cbv, ?_⟩
 show _ = (PV.agg [.int .i64 a7, .str b5, .ow 3 a5, .ow 1 c0])
 simp only [b3, c6, List.nil_append]
 rfl
theorem r_impl_cloneLook (A : Alg) (hA : A = std) (x : GLook) (hz : ∀ k ∈ zsLook x, k ≤ 1048576) : Real Tryz.prog 138 [.agg (eLook x)] (.agg (eoLook x)) := by
 obtain ⟨a7, b5, c7, b7, b6⟩ := x
 obtain ⟨b4, b0⟩ := nm (b6.map eInt)
 have e5 := rlen_map hA b0
 refine real_args (args' := [.agg [.int .i64 a7, .str b5, .str c7, .int .i64 b7, .sl 1 b4]]) (by subst b0; rfl) ?_
 have n0 : List.length b6 ≤ 1048576 := hz _ (by simp [zsLook, zsIntS])
 refine real tyOk Tryz.func138 (by kernel_rfl) (afun_of rfl ?_)
 refine gs (gr (ra hA 2 (by cbv) (od ?_)))
 refine gs (gr (ra hA 2 (by cbv) ?_))
 obtain ⟨a5, b3, hc2⟩ : ∃ (a5 : RR), a5 = List.map eInt b6 ∧ Real Tryz.prog 65 [.sl 1 b4] (.ow 1 a5) := ⟨_, rfl, by subst b0; exact r_Clone_Int A hA b6 (by omega)⟩
 have d9 := rlen_map hA b3
 refine ops_callV rfl rfl (by cbv) (by cbv) hc2 (.inr rfl) (by cbv) ?_
 refine ra hA 2 (by cbv) (od ?_)
 refine gs (gr (ra hA 2 (by cbv) (od ?_)))
 refine go_ret ⟨_, by cbv, ?_⟩
 show _ = (PV.agg [.int .i64 a7, .str b5, .str c7, .int .i64 b7, .ow 1 a5])
 simp only [b3, List.nil_append]
 rfl
end Go.Av

/- The abstract walk is sound: code, and functions. -/
import Derived.Test.YtjbokkoiicoahaaGreatAvy
namespace Go.Av
open Go Go.RowKit
set_option linter.unusedVariables false
set_option linter.unusedSimpArgs false
def AE.to : AE → Exit
 | .normal => .normal
 | .exit id => .exit id
 | .ret => .ret
section
variable {P : Program} {T : Tys} {X : Spec} {B : Ft} {W0 : World} {I0 : Ft} {σ σ' : St} {a : Act} {w w' : World} {o : Oper} {ops : Array Oper} {Q : Exit → Act → World → Prop}
theorem wp_loop_n {c : Code} (I : Nat → Act → World → Prop) {n : Nat} (h₀ : I n a w) (round : ∀ n a w, I n a w → c.wp P (Exit.then (fun a' w' => ∃ m, m < n ∧ I m a' w') Q) a w) : (Code.loop c).wp P Q a w := by
 intro b k cs
 have key : ∀ n a w, I n a w → ∃ e a' w', Q e a' w' ∧ Arrives P (lone (b.at a (.code c :: .inLoop c :: k)) cs w) b k cs e a' w' := by
  intro n
  induction n using Nat.strongRecOn with
  | _ n ih =>
   intro a w hI
   obtain ⟨e, a₁, w₁, hq, harr⟩ := round n a w hI b (.inLoop c :: k) cs
   cases e with
   | normal =>
    obtain ⟨m, hlt, hI₁⟩ := hq
    obtain ⟨e₂, a₂, w₂, hq₂, harr₂⟩ := ih m hlt a₁ w₁ hI₁
    exact ⟨e₂, a₂, w₂, hq₂, .of_steps (Steps.trans harr (.one step_inLoop)) harr₂⟩
   | exit id => exact ⟨_, a₁, w₁, hq, .pass (x := .inLoop c) rfl (fun _ _ => .inl (by simp)) harr⟩
   | goto l => exact ⟨_, a₁, w₁, hq, .pass (x := .inLoop c) rfl (fun _ _ => .inl (by simp)) harr⟩
   | ret => exact ⟨_, a₁, w₁, hq, .pass (x := .inLoop c) rfl (fun _ _ => .inl (by simp)) harr⟩
   | panic ch => exact ⟨_, a₁, w₁, hq, .pass (x := .inLoop c) rfl (fun _ _ => .inl (by simp)) harr⟩
   | outgrown => exact ⟨_, a₁, w₁, hq, .pass (x := .inLoop c) rfl (fun _ _ => .inl (by simp)) harr⟩
 obtain ⟨e, a', w', hq, harr⟩ := key _ a w h₀
 exact ⟨e, a', w', hq, .of_steps (.one step_loop) harr⟩
theorem awp_sound (hT : TyOk P T) (hX : AllReal P X B W0) (c : Code) : ∀ (Qa : AE → St → Prop) (Q : Exit → Act → World → Prop) (σ : St) (a : Act) (w : World), (∀ e σ a w, SimE B W0 I0 σ a w → Qa e σ → Q e.to a w) → SimE B W0 I0 σ a w →
  awp T X c Qa σ → c.wp P Q a w := by
 induction c with
 | skip => intro Qa Q σ a w hQ h ha; exact wp_skip (hQ .normal σ a w h ha)
 | region id ops draw =>
  intro Qa Q σ a w hQ h ha
  cases draw with
  | false =>
   obtain ⟨tw, σ', ht, ha⟩ := ha
   exact region_sound hT hX (fun σ a w hs hq => (by obtain ⟨tw2, σ2, h2, h3⟩ := hq; exact hQ .normal σ2 a w (tweak_sound tw2 hs h2) h3)) (tweak_sound tw h ht) ha
  | true =>
   obtain ⟨tw, σ', ht, ⟨⟨_, hok⟩, ha⟩ | ⟨hok, ha⟩⟩ := ha
   ·exact draw_sound hT hX hok (fun σ a w => hQ .normal σ a w) (tweak_sound tw h ht) ha
   obtain ⟨rk, hok⟩ := hok
   exact drawE_sound hT hX hok (fun σ a w => hQ .normal σ a w) (tweak_sound tw h ht) ha
 | seq x y ihx ihy =>
  intro Qa Q σ a w hQ h ha
  refine wp_seq (ihx _ _ σ a w (fun e σ' a' w' h' hq => ?_) h ha)
  cases e with
  | normal => exact ihy Qa Q σ' a' w' hQ h' hq
  | exit id => exact hQ (.exit id) _ _ _ h' hq
  | ret => exact hQ .ret _ _ _ h' hq
 | cond c x y ihx ihy =>
  intro Qa Q σ a w hQ h ha
  simp only [awp] at ha
  split at ha
  ·rename_i t hc
   obtain ⟨I, val, fs, hs⟩ := h
   have he := hs.eval c
   rw [hc] at he
   have he := rel_bool he
   cases t
   ·exact wp_cond_false he (ihy Qa Q σ a w hQ ⟨I, val, fs, hs⟩ (ha.2 rfl))
   exact wp_cond_true he (ihx Qa Q σ a w hQ ⟨I, val, fs, hs⟩ (ha.1 rfl))
  exact ha.elim
 | block id b ih =>
  intro Qa Q σ a w hQ h ha
  refine wp_block (ih _ _ σ a w (fun e σ' a' w' h' hq => ?_) h ha)
  cases e with
  | normal => exact hQ .normal _ _ _ h' hq
  | exit id' =>
   simp only [AE.to, Exit.inBlock]
   by_cases hid : id' = id
   ·rw [if_pos hid]; exact hQ .normal _ _ _ h' (hq.1 hid)
   rw [if_neg hid]; exact hQ (.exit id') _ _ _ h' (hq.2 hid)
  | ret => exact hQ .ret _ _ _ h' hq
 | loop b ih =>
  intro Qa Q σ a w hQ h ha
  obtain ⟨tw, σ0, ks, ds, I, n, ht, hI, hround⟩ := ha
  refine wp_loop_n (I := fun n a w => ∃ σ, I σ n ∧ SimE B W0 I0 σ a w) (n := n) ⟨_, hI, keep_sound (tweak_sound tw h ht) ks ds⟩ ?_
  intro m a' w' hm
  obtain ⟨σ1, hI1, h1⟩ := hm
  refine ih _ _ σ1 a' w' (fun e σ2 a2 w2 h2 hq => ?_) h1 (hround σ1 m hI1)
  cases e with
  | normal =>
   obtain ⟨m', hlt, hI2⟩ := hq
   exact ⟨m', hlt, _, hI2, keep_sound h2 ks ds⟩
  | exit id => exact hQ (.exit id) _ _ _ h2 hq
  | ret => exact hQ .ret _ _ _ h2 hq
 | exit id => intro Qa Q σ a w hQ h ha; exact wp_exit (hQ (.exit id) σ a w h ha)
 | ret => intro Qa Q σ a w hQ h ha; exact wp_ret (hQ .ret σ a w h ha)
 | _ => intro Qa Q σ a w hQ h ha; exact ha.elim
variable {I : Ft} {val : Nat → Value} {fs : Nat → Ft}
def resRun (tmps : Array Value) : ResultVar → Sem Value
 | .tmp t => pure (tmps.getD t undef)
 | .cell a t => do loadVar t (← asAddr (tmps.getD a undef))
theorem slot_val (h : Sim B W0 I0 I val fs σ a w) (t : Nat) : RelS w I val σ.bl (getL σ.sl t) (a.tmps.getD t undef) := by
 have := h.slots.get t undef
 simpa using this
theorem resVar_rel (hT : TyOk P T) (h : Sim B W0 I0 I val fs σ a w) {x : ResultVar} {v : PV} (hv : resVar T σ x = some v) : ∃ u, (resRun a.tmps x).run P w = .ok u w ∧ RelS w I val σ.bl v u := by
 cases x with
 | tmp t =>
  simp only [resVar, Option.some.injEq] at hv
  subst hv
  exact ⟨_, rfl, slot_val h t⟩
 | cell ad t =>
  simp only [resVar] at hv
  split at hv
  case h_2 => cases hv
  rename_i i d j hTt hsl
  split at hv
  case h_2 => cases hv
  rename_i sz r hb
  have he := slot_val h ad
  rw [hsl] at he
  generalize hu : a.tmps.getD ad undef = u at he
  cases he with
  | leaf c v hl h => cases hl
  | pt d i' j b g hb' hg =>
   rw [hb] at hb'
   cases hb'
   obtain ⟨vs, hc, hR⟩ := blk_row (a := 0) (r := r) (h.blocks d _ hb) rfl hg
   obtain ⟨y, hrun, hy⟩ := run_loadVar_rel (P := P) (hT _ _ hTt) (a := ⟨g, 0 * sz + j, none⟩) (vs := vs.drop j) (fun k u hk => by
    rw [Addr.add_mid, show 0 * sz + j + k = 0 * sz + (j + k) by omega]
    exact hc (j + k) u (by simpa using hk)) (hR.drop j) hv
   refine ⟨y, ?_, hy⟩
   simp only [resRun, hu, asAddr]
   exact hrun
theorem closeL_rel (hT : TyOk P T) : ∀ (l : List ResultVar) (σ : St), Sim B W0 I0 I val fs σ a w → ∀ vs, closeL T σ l = some vs →
  ∃ us F, (l.mapM (resRun a.tmps)).run P w = .ok us w ∧ us.length = l.length ∧ RelT w I vs us F ∧ ∀ x, F x → ∃ d b, blk σ.bl d = some b ∧ fs d x
 | [], σ, h, vs, hc => by
  simp only [closeL, Option.some.injEq] at hc
  subst hc
  exact ⟨[], none', rfl, rfl, .nil _, fun x hx => hx.elim⟩
 | x :: l, σ, h, vs, hc => by
  simp only [closeL] at hc
  split at hc
  case h_2 => cases hc
  rename_i v hv
  split at hc
  case h_2 => cases hc
  rename_i v' σ1 h1
  split at hc
  case h_2 => cases hc
  rename_i l' h2
  simp only [Option.some.injEq] at hc
  subst hc
  obtain ⟨u, hrun, hR⟩ := resVar_rel hT h hv
  obtain ⟨F, hS, hR1, hF, hsub⟩ := close1_rel h hR h1
  obtain ⟨us, G, hruns, hlen, hRT, hG⟩ := closeL_rel hT l σ1 hS l' h2
  refine ⟨u :: us, fun x => F x ∨ G x, ?_, by simp [hlen], .cons _ _ _ _ F G _ hR1 hRT (fun _ h => .inl h) (fun _ h => .inr h) (fun b hb hg => ?_), fun y hy => ?_⟩
  ·rw [List.mapM_cons]
   simp only [Sem.run_bind, hrun, Result.andThen_ok, hruns, Sem.run_pure]
  ·obtain ⟨d, q, hq, hn, hf⟩ := hF b hb
   obtain ⟨e, q', hq', hf'⟩ := hG b hg
   obtain ⟨q2, hq2, _⟩ := hsub e q' hq'
   have hne : d ≠ e := by rintro rfl; rw [hn] at hq'; cases hq'
   exact h.disj d e _ _ hq hq2 hne b hf hf'
  rcases hy with hy | hy
  ·obtain ⟨d, q, hq, _, hf⟩ := hF y hy; exact ⟨d, q, hq, hf⟩
  obtain ⟨d, q, hq, hf⟩ := hG y hy
  obtain ⟨q2, hq2, _⟩ := hsub d q hq
  exact ⟨d, q2, hq2, hf⟩
theorem results_run {fn : Func} {tmps : Array Value} {us : List Value} (h : (fn.results.toList.mapM (resRun tmps)).run P w = .ok us w) :
  (results fn tmps).run P w = .ok (if h : us.length = 1 then us[0] else .tuple us.toArray) w := by
 have e : (fn.results.mapM (resRun tmps)) = List.toArray <$> fn.results.toList.mapM (resRun tmps) := by
  rw [Array.mapM_eq_mapM_toList]
 have h2 : (fn.results.mapM (resRun tmps)).run P w = .ok us.toArray w := by
  rw [e]
  show ((fn.results.toList.mapM (resRun tmps)) >>= (fun l => pure l.toArray)).run P w = _
  rw [Sem.run_bind, h, Result.andThen_ok]
  rfl
 have : results fn tmps = (fn.results.mapM (resRun tmps)) >>= fun vs => pure (if h : vs.size = 1 then vs[0] else .tuple vs) := by
  unfold results
  congr 1
 rw [this, Sem.run_bind, h2, Result.andThen_ok]
 simp only [Sem.run_pure]
 simp
theorem closed_rel {vs : List PV} {us : List Value} {F : Ft} (h : RelT w I vs us F) : RelR w I (tupOf vs) (if h : us.length = 1 then us[0] else .tuple us.toArray) F := by
 cases h with
 | nil F => exact .tup [] [] _ (.nil _)
 | cons c l v vs F G H h t hF hG d =>
  cases t with
  | nil G =>
   simp only [tupOf, List.length_singleton, dite_true, List.getElem_cons_zero]
   refine .one _ _ _ ?_
   cases h with
   | one c v F h => exact .one _ _ _ (h.mono hF)
   | agg cs vs F h => exact .agg _ _ _ (h.mono hF)
  | cons c2 l2 v2 vs2 F2 G2 H2 h2 t2 hF2 hG2 d2 =>
   have : ¬ (v :: v2 :: vs2).length = 1 := by simp
   rw [dif_neg this]
   exact .tup _ _ _ (.cons _ _ _ _ F G _ h (.cons _ _ _ _ F2 G2 _ h2 t2 hF2 hG2 d2) hF hG d)
theorem afun_sound (hT : TyOk P T) (hX : AllReal0 P X) {g : FuncId} {fn : Func} (hf : P.funcs[g]? = some fn) (hn : (fn.name == "runtime.NumGoroutine") = false) {args : List PV} {r : PV} (ha : afun T X fn args r) : Real P g args r := by
 unfold afun at ha
 split at ha
 case h_2 => exact ha.elim
 rename_i c hc
 refine ⟨⟨fn, c, hf, hc, hn⟩, fun w hInv I vs val hargs hI => ?_⟩
 refine calls_of_wp hf hc ?_
 have hsim : Sim (fun x => w.heap.size ≤ x) w I I val (fun _ => none') (initS fn args) { tmps := vs.toArray ++ Array.replicate (fn.ntmps - vs.toArray.size) undef, defers := [] } w := by
  refine { slots := ?_, blocks := fun d b hb => ?_, disj := fun d d' b b' hb => ?_, imm := fun d b hb => ?_, new := fun d b hb => ?_, lt := hI, old := fun x hx => .inl hx, below := Kept.refl _ _, size := fun x hx => hx, heads := fun d v hv => (by cases hv), defers := rfl }
  ·have hl := hargs.len
   have e : (vs.toArray ++ Array.replicate (fn.ntmps - vs.toArray.size) undef).toList = vs ++ List.replicate (fn.ntmps - args.length) undef := by simp [hl]
   show RelSL w I val [] (args ++ List.replicate (fn.ntmps - args.length) .bad) _
   rw [e]
   refine hargs.append ?_
   generalize fn.ntmps - args.length = n
   induction n with
   | zero => exact .nil
   | succ n ih => rw [List.replicate_succ, List.replicate_succ]; exact .cons _ _ _ _ (.bad _) ih
  ·cases hb
  ·cases hb
  ·cases hb
  cases hb
 have fin : ∀ σ a w', SimE (fun x => w.heap.size ≤ x) w I σ a w' → (∃ us, closeL T σ fn.results.toList = some us ∧ r = tupOf us) →
   a.defers = [] ∧ ∃ v, (results fn a.tmps).run P w' = .ok v w' ∧ ∃ J F, RelR w' J r v F ∧ (∀ x, F x → w.heap.size ≤ x ∧ x < w'.heap.size) ∧ (∀ x, J x → (I x ∨ w.heap.size ≤ x) ∧ x < w'.heap.size ∧ ¬ F x) ∧ Below w.heap.size w w' := by
  intro σ a w' ⟨I1, val1, fs1, hs⟩ ⟨us, hus, hr⟩
  obtain ⟨xs, F, hrun, hlen, hRT, hF⟩ := closeL_rel hT _ σ hs us hus
  refine ⟨hs.defers, _, results_run hrun, I1, F, by rw [hr]; exact closed_rel hRT, fun x hx => ?_, fun x hx => ⟨hs.old x hx, hs.lt x hx, fun hf => ?_⟩, hs.below.below'⟩
  ·obtain ⟨d, b, hb, hfx⟩ := hF x hx; exact hs.new d b hb x hfx
  obtain ⟨d, b, hb, hfx⟩ := hF x hf; exact hs.imm d b hb x hfx hx
 refine awp_sound hT ⟨hX, hInv, fun g hg hb => by have := hInv.lt g hg; omega⟩ c _ _ _ _ _ (fun e σ a w' hs hq => ?_) ⟨I, val, _, hsim⟩ ha
 cases e with
 | normal => exact fin σ a w' hs hq
 | exit id => exact hq.elim
 | ret => exact fin σ a w' hs hq
theorem freeB_none : ∀ {x bl : List (Nat × Blk)}, freeB bl x = true → ∀ {d : Nat} {b : Blk}, blk x d = some b → blk bl d = none
 | [], _, _, d, b, h => by cases h
 | (e, c) :: x, bl, hf, d, b, h => by
  obtain ⟨h1, h2, h3⟩ := freeB_head hf
  rw [blk_cons] at h
  by_cases h0 : e = d
  ·subst h0; exact h1
  rw [if_neg h0] at h; exact freeB_none h3 h
def EndF (fs : Nat → Ft) (bl : List (Nat × Blk)) : Ft := fun x => ∃ d b, blk bl d = some b ∧ fs d x
theorem EndF.right {fs : Nat → Ft} {x y : List (Nat × Blk)} (hf : freeB y x = true) : ∀ z, EndF fs y z → EndF fs (x ++ y) z := by
 rintro z ⟨d, b, hb, hz⟩
 refine ⟨d, b, ?_, hz⟩
 rw [blk_append]
 cases hq : blk x d with
 | none => exact hb
 | some c => rw [freeB_none hf hq] at hb; cases hb
theorem EndF.left {fs : Nat → Ft} {x y : List (Nat × Blk)} : ∀ z, EndF fs x z → EndF fs (x ++ y) z := by
 rintro z ⟨d, b, hb, hz⟩
 exact ⟨d, b, by rw [blk_append, hb], hz⟩
theorem EndF.apart {fs : Nat → Ft} {x y : List (Nat × Blk)} (hf : freeB y x = true) (hd : ∀ d d' b b', blk x d = some b → blk y d' = some b' → d ≠ d' → ∀ z, fs d z → ¬ fs d' z) : ∀ z, EndF fs x z → ¬ EndF fs y z := by
 rintro z ⟨d, b, hb, hz⟩ ⟨d', b', hb', hz'⟩
 refine hd d d' b b' hb hb' ?_ z hz hz'
 rintro rfl
 rw [freeB_none hf hb] at hb'
 cases hb'
section
variable {w0 : World} {val0 : Nat → Value} {bl0 : List (Nat × Blk)} {J : Ft}
end
theorem headsM_look {hv : Nat → Value} : ∀ {bl : List (Nat × Blk)} {d : Nat} {v : Value}, lookV (headsM hv bl) d = some v → hv d = v ∧ ∃ b, blk bl d = some b
 | [], d, v, h => by cases h
 | (e, b) :: bl, d, v, h => by
  have h : lookV ((e, hv e) :: headsM hv bl) d = some v := h
  rw [lookV_cons] at h
  rw [blk_cons]
  by_cases h0 : e = d
  ·subst h0
   rw [if_pos rfl] at h ⊢
   cases h
   exact ⟨rfl, _, rfl⟩
  rw [if_neg h0] at h ⊢
  exact headsM_look h
theorem bindT_length (own : Bool) : ∀ (l : List PV) (id : Nat), (bindT own id l).1.length = l.length
 | [], _ => rfl
 | c :: l, id => by simp only [bindT, List.length_cons, bindT_length own l]
theorem afunC_sound (hT : TyOk P T) (hX : AllReal0 P X) {g : FuncId} {fn : Func} (hf : P.funcs[g]? = some fn) (hn : (fn.name == "runtime.NumGoroutine") = false) {args : List PV} {r : PV} (ha : afunC T X fn args r) : RealC P g args r := by
 unfold afunC at ha
 split at ha
 case h_2 => exact ha.elim
 rename_i c hc
 obtain ⟨hfree, ha⟩ := ha
 refine ⟨⟨fn, c, hf, hc, hn⟩, fun w hInv I F hFP vs hRT hI hF => ?_⟩
 refine calls_of_wp hf hc ?_
 have hIB : ∀ x, I x → ¬ (F x ∨ w.heap.size ≤ x) := fun x hx h => h.elim (fun h => (hF x h).2 hx) (fun h => by have := hI x hx; omega)
 have hsim0 : Sim (fun x => F x ∨ w.heap.size ≤ x) w I I (fun _ => undef) (fun _ => none') { sl := [], bl := [] } { tmps := #[], defers := [] } w := by
  refine { slots := .nil, blocks := fun d b hb => ?_, disj := fun d d' b b' hb => ?_, imm := fun d b hb => ?_, new := fun d b hb => ?_, lt := hI, old := fun x hx => .inl hx, below := Kept.refl _ _, size := fun x hx => .inr hx, heads := fun d v hv => (by cases hv), defers := rfl }
  ·cases hb
  ·cases hb
  ·cases hb
  cases hb
 obtain ⟨val, fs, hs, hrel, _, hbes⟩ := bindT_rel (id := lentBase) hsim0 hRT (fun x hx => ⟨.inl hx, (hF x hx).1⟩) (fun x hx => (hF x hx).2) (fun x hx e b hb => by cases hb) hfree
 have eapp : (bindT true lentBase args).2 ++ ([] : List (Nat × Blk)) = (bindT true lentBase args).2 := List.append_nil _
 have hrel : RelSL w I val (bindT true lentBase args).2 (bindT true lentBase args).1 vs := by have := hrel; rwa [show (({ sl := [], bl := [] } : St).bl) = ([] : List (Nat × Blk)) from rfl, eapp] at this
 have hlen : vs.length = args.length := by rw [hrel.len, bindT_length]
 have hsim : Sim (fun x => F x ∨ w.heap.size ≤ x) w I I val fs (initM fn args val) { tmps := vs.toArray ++ Array.replicate (fn.ntmps - vs.toArray.size) undef, defers := [] } w := by
  refine { slots := ?_, blocks := fun d b hb => ?_, disj := fun d d' b b' hb hb' => ?_, imm := fun d b hb => ?_, new := fun d b hb => ?_, lt := hI, old := fun x hx => .inl hx, below := Kept.refl _ _, size := fun x hx => .inr hx, heads := fun d v hv => headsM_look hv, defers := rfl }
  ·have e : (vs.toArray ++ Array.replicate (fn.ntmps - vs.toArray.size) undef).toList = vs ++ List.replicate (fn.ntmps - args.length) undef := by simp [hlen]
   show RelSL w I val (bindT true lentBase args).2 ((bindT true lentBase args).1 ++ List.replicate (fn.ntmps - args.length) .bad) _
   rw [e]
   refine hrel.append ?_
   generalize fn.ntmps - args.length = n
   induction n with
   | zero => exact .nil
   | succ n ih => rw [List.replicate_succ, List.replicate_succ]; exact .cons _ _ _ _ (.bad _) ih
  ·have := hs.blocks d b (by show blk ((bindT true lentBase args).2 ++ []) d = _; rw [eapp]; exact hb)
   have this : BlkR w I val ((bindT true lentBase args).2 ++ []) b (val d) (fs d) := this
   rwa [eapp] at this
  ·exact hs.disj d d' b b' (by show blk ((bindT true lentBase args).2 ++ []) d = _; rw [eapp]; exact hb) (by show blk ((bindT true lentBase args).2 ++ []) d' = _; rw [eapp]; exact hb')
  ·exact hs.imm d b (by show blk ((bindT true lentBase args).2 ++ []) d = _; rw [eapp]; exact hb)
  exact hs.new d b (by show blk ((bindT true lentBase args).2 ++ []) d = _; rw [eapp]; exact hb)
 have fin : ∀ σ a w', SimE (fun x => F x ∨ w.heap.size ≤ x) w I σ a w' → (∃ us, closeL T σ fn.results.toList = some us ∧ r = tupOf us) →
   a.defers = [] ∧ ∃ v, (results fn a.tmps).run P w' = .ok v w' ∧ ∃ J F', RelR w' J r v F' ∧ (∀ x, F' x → (F x ∨ w.heap.size ≤ x) ∧ x < w'.heap.size) ∧ (∀ x, J x → (I x ∨ F x ∨ w.heap.size ≤ x) ∧ x < w'.heap.size ∧ ¬ F' x) ∧ Kept (fun x => F x ∨ w.heap.size ≤ x) w w' := by
  intro σ a w' ⟨I1, val1, fs1, hS⟩ ⟨us, hus, hr⟩
  obtain ⟨xs, F1, hrun, hlen, hRT1, hF1⟩ := closeL_rel hT _ σ hS us hus
  refine ⟨hS.defers, _, results_run hrun, I1, F1, by rw [hr]; exact closed_rel hRT1, fun x hx => ?_, fun x hx => ⟨?_, hS.lt x hx, fun hf => ?_⟩, hS.below⟩
  ·obtain ⟨d, b, hb, hfx⟩ := hF1 x hx; exact hS.new d b hb x hfx
  ·rcases hS.old x hx with h | h
   ·exact .inl h
   exact .inr h
  obtain ⟨d, b, hb, hfx⟩ := hF1 x hf; exact hS.imm d b hb x hfx hx
 refine awp_sound hT ⟨hX, hInv, fun g hg hb => hb.elim (fun hb => hFP g hb hg) fun hb => by have := hInv.lt g hg; omega⟩ c _ _ _ _ _ (fun e σ a w' hs hq => ?_) ⟨I, val, _, hsim⟩ (ha val)
 cases e with
 | normal => exact fin σ a w' hs hq
 | exit id => exact hq.elim
 | ret => exact fin σ a w' hs hq
end
end Go.Av

/- The abstract walk is sound: calls, regions, code, functions. -/
import Derived.Test.YtjbokkoiicoahaaGreatDoorAvl
namespace Go.Av
open Go Go.RowKit
set_option linter.unusedVariables false
set_option linter.unusedSimpArgs false
def Prot (P : Program) (g : Nat) : Prop := P.globalNamed "internal/strconv.uint64pow10" = some g ∨ P.globalNamed "internal/bytealg.MaxLen" = some g
def tabP :List Int:=(List.range 20).map fun i=>((10 ^ i:Nat):Int)
structure Inv (P:Program)(w:World):Prop where
 lt:∀ g,Prot P g→g < w.heap.size
 tab : ∀ g, P.globalNamed "internal/strconv.uint64pow10" = some g → w.var? P "internal/strconv.uint64pow10" = some (tabP.map fun z => Value.int .u64 z).toArray
 max : ∀ g, P.globalNamed "internal/bytealg.MaxLen" = some g → ∃ m, w.cell? ⟨g, 0, none⟩ = some (.int .i64 m)
theorem Inv.kept {P:Program}{B:Ft}{W0 w:World}(h:Inv P W0)(hk:Kept B W0 w)(hB:∀ g,Prot P g→¬ B g):Inv P w where
 lt g hg:=Nat.lt_of_lt_of_le (h.lt g hg) hk.size
 tab g hg:=by
  have h1:=h.tab g hg
  have h2:=hk.block g (hB g (.inl hg))
  unfold World.var? at h1 ⊢
  rw[hg] at h1 ⊢
  simp only[Option.bind_some] at h1 ⊢
  rw[h2];exact h1
 max g hg:=by
  obtain⟨m,hm⟩:=h.max g hg
  exact⟨m,by rw[World.cell?_of_block (hk.block g (hB g (.inr hg)))];exact hm⟩
def Real (P:Program)(g:FuncId)(args:List PV)(r:PV):Prop:=
 (∃ fn c, P.funcs[g]? = some fn ∧ fn.body = some c ∧ (fn.name == "runtime.NumGoroutine") = false) ∧
 ∀(w:World),Inv P w→∀(I:Ft) (vs:List Value) (val:Nat→Value),RelSL w I val [] args vs→(∀ x,I x→x < w.heap.size)→
  Calls P g vs.toArray w fun e w'=>match e with
   | .returned v=>∃ J F,RelR w' J r v F∧(∀ x,F x→w.heap.size≤x∧x < w'.heap.size)∧(∀ x,J x→(I x∨w.heap.size≤x)∧x < w'.heap.size∧¬ F x)∧Below w.heap.size w w'
   | _=>False
def RealM (P:Program)(g:FuncId)(args args':List PV)(r:PV):Prop:=
 (∃ fn c, P.funcs[g]? = some fn ∧ fn.body = some c ∧ (fn.name == "runtime.NumGoroutine") = false) ∧
 ∀(w:World),Inv P w→∀(I F:Ft),(∀ x,F x→¬ Prot P x)→∀(vs:List Value),RelT w I args vs F→(∀ x,I x→x < w.heap.size)→(∀ x,F x→x < w.heap.size∧¬ I x)→
  Calls P g vs.toArray w fun e w'=>match e with
   | .returned v=>∃ J F',RelR w' J r v none'∧RelT w' J args' vs F'∧(∀ x,F' x→(F x∨w.heap.size≤x)∧x < w'.heap.size)∧(∀ x,J x→(I x∨F x∨w.heap.size≤x)∧x < w'.heap.size∧¬ F' x)∧Kept (fun x=>F x∨w.heap.size≤x) w w'
   | _=>False
def RealC (P:Program)(g:FuncId)(args:List PV)(r:PV):Prop:=
 (∃ fn c, P.funcs[g]? = some fn ∧ fn.body = some c ∧ (fn.name == "runtime.NumGoroutine") = false) ∧
 ∀(w:World),Inv P w→∀(I F:Ft),(∀ x,F x→¬ Prot P x)→∀(vs:List Value),RelT w I args vs F→(∀ x,I x→x < w.heap.size)→(∀ x,F x→x < w.heap.size∧¬ I x)→
  Calls P g vs.toArray w fun e w'=>match e with
   | .returned v=>∃ J F',RelR w' J r v F'∧(∀ x,F' x→(F x∨w.heap.size≤x)∧x < w'.heap.size)∧(∀ x,J x→(I x∨F x∨w.heap.size≤x)∧x < w'.heap.size∧¬ F' x)∧Kept (fun x=>F x∨w.heap.size≤x) w w'
   | _=>False
structure AllReal0 (P:Program)(X:Spec):Prop where
 r:∀ g args r,X.r g args r→Real P g args r
 m:∀ g args args' r,X.m g args args' r→RealM P g args args' r
 c:∀ g args r,X.c g args r→RealC P g args r
structure AllReal (P:Program)(X:Spec)(B:Ft)(W0:World):Prop where
 real:AllReal0 P X
 inv:Inv P W0
 prot:∀ g,Prot P g→¬ B g
theorem AllReal.at {P:Program}{X:Spec}{B:Ft}{W0 w:World}(h:AllReal P X B W0)(hk:Kept B W0 w):Inv P w:=h.inv.kept hk h.prot
section
variable {P : Program} {T : Tys} {X : Spec} {B : Ft} {W0 : World} {I0 : Ft} {I : Ft} {val : Nat → Value} {fs : Nat → Ft} {σ σ' : St} {a : Act} {w w' : World} {o : Oper}
theorem RelR1.fresh {J J':Ft}{c:PV}{v:Value}{F:Ft}(h:RelR1 w J c v F)(hf:Av.fresh c):RelR1 w J' c v F:=by
 cases h with
 | one c v F h=>exact .one _ _ _ (h.fresh hf)
 | agg cs vs F h=>exact .agg _ _ _ (h.fresh hf)
theorem RelT.fresh {J J':Ft}:∀{l:List PV} {vs:List Value} {F:Ft},RelT w J l vs F→Av.freshL l→RelT w J' l vs F
 | _,_,_,.nil F,_=>.nil F
 | _,_,_,.cons c l v vs F G H h t hF hG d,hf=>.cons c l v vs F G H (h.fresh hf.1) (RelT.fresh t hf.2) hF hG d
theorem RelR.fresh {J J':Ft}{c:PV}{v:Value}{F:Ft}(h:RelR w J c v F)(hf:Av.fresh c):RelR w J' c v F:=by
 cases h with
 | one c v F h=>exact .one _ _ _ (h.fresh hf)
 | tup cs vs F h=>exact .tup _ _ _ (h.fresh hf)
theorem RelR1.monoI {J J':Ft}(hJ:∀ x,J x→J' x){c:PV}{v:Value}{F:Ft}(h:RelR1 w J c v F):RelR1 w J' c v F:=by
 cases h with
 | one c v F h=>exact .one _ _ _ (h.frame (SameOn.refl _ _) hJ (SameOn.refl _ _))
 | agg cs vs F h=>exact .agg _ _ _ (h.frame (SameOn.refl _ _) hJ (SameOn.refl _ _))
theorem RelT.monoI {J J':Ft}(hJ:∀ x,J x→J' x):∀{l:List PV} {vs:List Value} {F:Ft},RelT w J l vs F→RelT w J' l vs F
 | _,_,_,.nil F=>.nil F
 | _,_,_,.cons c l v vs F G H h t hF hG d=>.cons c l v vs F G H (h.monoI hJ) (RelT.monoI hJ t) hF hG d
theorem RelR.monoI {J J':Ft}(hJ:∀ x,J x→J' x){c:PV}{v:Value}{F:Ft}(h:RelR w J c v F):RelR w J' c v F:=by
 cases h with
 | one c v F h=>exact .one _ _ _ (h.monoI hJ)
 | tup cs vs F h=>exact .tup _ _ _ (h.monoI hJ)
mutual
theorem RelS.noH {val':Nat→Value}{bl:List (Nat × Blk)}:∀{c:PV} {v:Value},RelS w I val bl c v→Av.noH c=true→RelS w I val' [] (Av.view bl c) v
 | _,_,.leaf c v hl h,_=>by
  have hv:Av.view bl c=c:=by cases c<;>first | rfl | simp[leafB] at hl
  rw[hv]
  exact .leaf _ _ hl h
 | _,_,.own d b hb hk,hn=>by cases hn
 | _,_,.pt d i j b g hb hg,hn=>by cases hn
 | _,_,.rd cs a vs hb hs hc hr,_=>.rd cs a vs hb hs hc hr
 | _,_,.agg cs vs h,hn=>.agg _ vs (RelSL.noH h hn)
 | _,_,.tup cs vs h,hn=>.tup _ vs (RelSL.noH h hn)
 | _,_,.fn f cs vs h,hn=>.fn f _ vs (RelSL.noH h hn)
 | _,_,.bad v,_=>.bad v
theorem RelSL.noH {val':Nat→Value}{bl:List (Nat × Blk)}:∀{l:List PV} {vs:List Value},RelSL w I val bl l vs→Av.noHL l=true→RelSL w I val' [] (viewS bl l) vs
 | _,_,.nil,_=>.nil
 | _,_,.cons c l v vs h t,hn=>by
  simp only[noHL,Bool.and_eq_true] at hn
  exact .cons _ _ v vs (RelS.noH h hn.1) (RelSL.noH t hn.2)
end
theorem RelSL.evals (h:Sim B W0 I0 I val fs σ a w):∀ l:List Operand,RelSL w I val σ.bl (l.map σ.get) (l.map a.eval)
 | []=>.nil
 | x::l=>.cons _ _ _ _ (h.eval x) (RelSL.evals h l)
theorem rel_fn {f:FuncId}{cs:List PV}{v:Value}{bl:List (Nat × Blk)}(h:RelS w I val bl (.fn f cs) v):∃ vs,v=.func (.func f) #[] (List.toArray vs)∧RelSL w I val bl cs vs:=by
 cases h with
 | leaf c v hl h=>simp[leafB] at hl
 | fn f cs vs h=>exact⟨vs,rfl,h⟩
theorem Sim.bind (h:Sim B W0 I0 I val fs σ a w){d:Nat}{r:PV}{v:Value}{J F:Ft}(hr:RelR w' J r v F)(hF:∀ x,F x→w.heap.size≤x∧x < w'.heap.size)
  (hJ:∀ x,J x→(I x∨w.heap.size≤x)∧x < w'.heap.size∧¬ F x) (hb:Below w.heap.size w w') (hfree:freeB σ.bl (bindR true d r).2=true):SimE B W0 I0 (σ.bind d r) (a.put (some d) v) w':=by
 have h1:=h.grow hb
 have hsz:w.heap.size≤w'.heap.size:=hb.size
 have h2:=h1.addI (I':=fun x=>I x∨J x) (fun x hx=>.inl hx) (fun x hx=>by
  rcases hx with hx | hx
  ·exact h1.lt x hx
  ·exact(hJ x hx).2.1) (fun x hx=>by
  rcases hx with hx | hx
  ·exact h.old x hx
  ·rcases(hJ x hx).1 with hi | hi
   ·exact h.old x hi
   exact .inr (h.size _ hi)) (fun e b he x hx hi=>by
  rcases hi with hi | hi
  ·exact h.imm e b he x hx hi
  rcases(hJ x hi).1 with hi' | hi'
  ·exact h.imm e b he x hx hi'
  have:=(h.new e b he x hx).2;omega)
 obtain⟨val',fs',h3,h4⟩:=bindR_rel h2 (id:=d) (hr.monoI fun x hx=>.inr hx) (fun x hx=>⟨h.size _ (hF x hx).1,(hF x hx).2⟩)
  (fun x hx hi=>by
   rcases hi with hi | hi
   ·have:=h.lt x hi;have:=(hF x hx).1;omega
   exact(hJ x hi).2.2 hx)
  (fun x hx e b he hf=>by have:=(h.new e b he x hf).2;have:=(hF x hx).1;omega) hfree
 exact⟨_,val',fs',h3.put (some d) h4⟩
theorem froze1_rel {J F:Ft}{c:PV}{v:Value}{bl:List (Nat × Blk)}{val:Nat→Value}(hJ:∀ x,J x→I x)(hF:∀ x,F x→I x)(h:RelR1 w J c v F):RelS w I val bl (froze1 c) v:=by
 cases h with
 | one c v F h=>
  have he:=h.erase hJ hF
  have hc:froze1 c=Av.erase c:=by cases c<;>first | rfl | cases h
  rw[hc]
  cases h<;>first | exact .bad _ | exact .leaf _ _ rfl he
 | agg cs vs F h=>
  have he:=h.erase hJ hF
  refine .agg _ _ ?_
  clear h
  revert he
  generalize none'=G
  intro he
  have:∀(cs:List PV) (vs:List Value) (G:Ft),RelL w I (eraseL cs) vs G→RelSL w I val bl (eraseL cs) vs:=by
   intro cs
   induction cs with
   | nil=>intro vs G h;cases h;exact .nil
   | cons c cs ih=>
    intro vs G h
    cases h with
    | cons c' l v vs F1 G1 H1 h t _ _ _=>
     refine .cons _ _ _ _ ?_ (ih _ _ t)
     cases c with
     | bad=>exact .bad _
     | raw v=>exact .bad _
     | int k n=>exact .leaf _ _ rfl (leaf_any (c:=.int k n) rfl h)
     | bool b=>exact .leaf _ _ rfl (leaf_any (c:=.bool b) rfl h)
     | str b=>exact .leaf _ _ rfl (leaf_any (c:=.str b) rfl h)
     | zc=>exact .leaf _ _ rfl (leaf_any (c:=.zc) rfl h)
     | sl sz rows=>exact .leaf _ _ rfl (leaf_any (c:=.sl sz rows) rfl h)
     | ow sz rows=>exact .leaf _ _ rfl (leaf_any (c:=.sl sz (eraseR rows)) rfl h)
     | own d=>cases h
     | pt d i j=>cases h
     | rd cs=>cases h
     | agg cs=>cases h
     | tup cs=>cases h
     | fn f cs=>cases h
  exact this cs vs G he
theorem frozeL_rel {J:Ft}{bl:List (Nat × Blk)}{val:Nat→Value}(hJ:∀ x,J x→I x):∀{l:List PV} {vs:List Value} {F:Ft},RelT w J l vs F→(∀ x,F x→I x)→RelSL w I val bl (frozeL l) vs
 | _,_,_,.nil F,_=>.nil
 | _,_,_,.cons c l v vs F G H h t hFH hG d,hF=>.cons _ _ _ _ (froze1_rel hJ (fun x hx=>hF x (hFH x hx)) h) (frozeL_rel hJ t (fun x hx=>hF x (hG x hx)))
theorem froze_rel {J F:Ft}{c:PV}{v:Value}{bl:List (Nat × Blk)}{val:Nat→Value}(hJ:∀ x,J x→I x)(hF:∀ x,F x→I x)(h:RelR w J c v F):RelS w I val bl (froze c) v:=by
 cases h with
 | one c v F h=>
  have hc:froze c=froze1 c:=by cases c<;>first | rfl | (cases h with | one _ _ _ h=>cases h)
  rw[hc]
  exact froze1_rel hJ hF h
 | tup cs vs F h=>exact .tup _ _ (frozeL_rel hJ h hF)
theorem Sim.bindF (h:Sim B W0 I0 I val fs σ a w){d:Nat}{r:PV}{v:Value}{J F:Ft}(hr:RelR w' J r v F)(hF:∀ x,F x→w.heap.size≤x∧x < w'.heap.size)
  (hJ:∀ x,J x→(I x∨w.heap.size≤x)∧x < w'.heap.size∧¬ F x) (hb:Below w.heap.size w w'):SimE B W0 I0 (σ.put (some d) (froze r)) (a.put (some d) v) w':=by
 have h1:=h.grow hb
 have h2:=h1.addI (I':=fun x=>I x∨J x∨F x) (fun x hx=>.inl hx) (fun x hx=>by
  rcases hx with hx | hx | hx
  ·exact h1.lt x hx
  ·exact(hJ x hx).2.1
  ·exact(hF x hx).2) (fun x hx=>by
  rcases hx with hx | hx | hx
  ·exact h.old x hx
  ·rcases(hJ x hx).1 with hi | hi
   ·exact h.old x hi
   exact .inr (h.size _ hi)
  ·exact .inr (h.size _ (hF x hx).1)) (fun e b he x hx hi=>by
  rcases hi with hi | hi | hi
  ·exact h.imm e b he x hx hi
  ·rcases(hJ x hi).1 with hi' | hi'
   ·exact h.imm e b he x hx hi'
   have:=(h.new e b he x hx).2;omega
  have:=(h.new e b he x hx).2;have:=(hF x hi).1;omega)
 exact⟨_,val,fs,h2.put (some d) (froze_rel (fun x hx=>.inr (.inl hx)) (fun x hx=>.inr (.inr hx)) hr)⟩
theorem run_call {g : FuncId} {fn : Func} {c : Code} (hf : P.funcs[g]? = some fn) (hb : fn.body = some c) (hn : (fn.name == "runtime.NumGoroutine") = false) (args : Array Value) (w : World) :
  (callFunc g args).run P w=.ok (.enter g args) w:=by
 have hn' : ¬ fn.name = "runtime.NumGoroutine" := by simpa using hn
 simp[callFunc,hf,hb,hn',go_sem]
theorem callOf_run (h : Sim B W0 I0 I val fs σ a w) {g : FuncId} {args : List PV} (hcall : callOf σ o = some (g, args)) (hex : ∃ fn c, P.funcs[g]? = some fn ∧ fn.body = some c ∧ (fn.name == "runtime.NumGoroutine") = false) :
  ∃ vs:List Value,RelSL w I val σ.bl args vs∧(execOp a.eval o).run P w=.ok (.enter g vs.toArray) w:=by
 obtain⟨fn,cd,hfn,hbd,hnm⟩:=hex
 unfold callOf at hcall
 split at hcall
 case h_2=>cases hcall
 rename_i c hop
 split at hcall
 case h_2=>cases hcall
 rename_i f hcal
 split at hcall
 case h_2=>cases hcall
 rename_i g' caps hfv
 simp only[Option.some.injEq,Prod.mk.injEq] at hcall
 obtain⟨rfl,rfl⟩:=hcall
 have hv:=h.eval f
 rw[hfv] at hv
 obtain⟨cvs,hv,hcv⟩:=rel_fn hv
 refine⟨_,(RelSL.evals h _).append hcv,?_⟩
 have he:(c.args.toList.map a.eval++cvs).toArray=#[]++c.args.map a.eval++cvs.toArray:=by
  apply Array.ext';simp
 rw[he]
 obtain⟨callee,as,tys⟩:=c
 simp only at hcal
 subst hcal
 have:execOp a.eval o=callFunc g' (#[]++as.map a.eval++cvs.toArray):=by
  simp only[execOp,hop,resolve,hv,Deferred.ofValue]
  rfl
 rw[this]
 exact run_call hfn hbd hnm _ _
theorem plain_tup {I':Ft}{J:Ft}(hJ:∀ x,J x→I' x){val':Nat→Value}{bl:List (Nat × Blk)}:∀{cs:List PV} {vs:List Value} {G:Ft},RelT w J cs vs G→allB leafB cs=true→RelSL w I' val' bl cs vs
 | _,_,_,.nil _,_=>.nil
 | _,_,_,.cons c l v vs F1 G1 H1 h t _ _ _,hp=>by
  simp only[allB,Bool.and_eq_true] at hp
  refine .cons _ _ _ _ ?_ (plain_tup hJ t hp.2)
  cases h with
  | one _ _ _ h=>exact .leaf _ _ hp.1 (leaf_any hp.1 (h.frame (SameOn.refl _ _) hJ (SameOn.refl _ _)))
  | agg _ _ _ h=>cases hp.1
theorem plain_rel {J:Ft}{r:PV}{v:Value}(hr:RelR w J r v none')(hp:plainR r=true){I':Ft}(hJ:∀ x,J x→I' x){val':Nat→Value}{bl:List (Nat × Blk)}:RelS w I' val' bl r v:=by
 cases hr with
 | one _ _ _ h=>
  cases h with
  | one _ _ _ h=>
   have hl:leafB r=true:=by
    cases r with
    | tup vs=>cases h
    | agg cs=>cases h
    | _=>exact hp
   exact .leaf _ _ hl (leaf_any hl (h.frame (SameOn.refl _ _) hJ (SameOn.refl _ _)))
  | agg cs vs F h=>exact .agg _ _ ((RelL.frame (SameOn.refl _ _) hJ h (SameOn.refl _ _)).slots hp)
 | tup cs vs F h=>exact .tup _ _ (plain_tup hJ h hp)
theorem aopM_sound (hX:AllReal P X B W0)(h:Sim B W0 I0 I val fs σ a w){K:St→Prop}{next:Act→World→Prop}{Q:Exit→Act→World→Prop}
  (hk:∀ σ' a' w',SimE B W0 I0 σ' a' w'→K σ'→next a' w') (ha:aopM X o K σ):o.wp P a w next Q:=by
 obtain⟨g,args,args1,args2,r,bl',hcall,hlend,hnd,hXm,hpl,hback,hK⟩:=ha
 obtain⟨hex,hreal⟩:=hX.real.m _ _ _ _ hXm
 obtain⟨vs,hargs,hrun⟩:=callOf_run h hcall hex
 have hnd:=nodupB_ok hnd
 obtain⟨hT,hbs⟩:=lendS_rel h hargs hlend hnd
 unfold Oper.wp
 rw[hrun]
 rw[Oper.upon_enter]
 refine Calls.mono (hreal w (hX.at h.below) I _ ?_ vs hT h.lt ?_) ?_
 ·rintro x ⟨d,hd,hx⟩ hp
  obtain⟨b,hb⟩:=hbs d hd
  exact hX.prot x hp (h.new d b hb x hx).1
 ·rintro x ⟨d,hd,hx⟩
  obtain⟨b,hb⟩:=hbs d hd
  exact⟨(h.new d b hb x hx).2,h.imm d b hb x hx⟩
 intro e w' he
 cases e with
 | returned v=>
  obtain⟨J,F',hR,hT',hF',hJ,hKp⟩:=he
  obtain⟨fs',hS⟩:=h.back (backS_rel hargs hback hT' hnd) hF' hJ hKp
  exact hk _ _ _ ⟨_,_,_,hS.put o.dst (plain_rel hR hpl (fun x hx=>.inr hx))⟩ hK
 | panicked c=>exact he.elim
 | outgrown=>exact he.elim
theorem drop_look {d:Nat}{e:Nat}{c:Blk}(h:blk (σ.drop d).bl e=some c):∃ b,e≠d∧blk σ.bl e=some b:=by
 have h:blk (killB d (delB σ.bl d)) e=some c:=h
 rw[blk_killB,blk_delB] at h
 by_cases h0:d=e
 ·rw [if_pos h0] at h;cases h
 rw[if_neg h0] at h
 cases hb:blk σ.bl e with
 | none=>rw[hb] at h;cases h
 | some b=>exact⟨b,Ne.symm h0,rfl⟩
theorem aopC_sound (hX:AllReal P X B W0)(h:Sim B W0 I0 I val fs σ a w){K:St→Prop}{next:Act→World→Prop}{Q:Exit→Act→World→Prop}
  (hk:∀ σ' a' w',SimE B W0 I0 σ' a' w'→K σ'→next a' w') (ha:aopC X o K σ):o.wp P a w next Q:=by
 obtain⟨g,args,args1,r,d,d0,hcall,hdst,hlend,howns,hXc,hfree,hK⟩:=ha
 obtain⟨hex,hreal⟩:=hX.real.c _ _ _ hXc
 obtain⟨vs,hargs,hrun⟩:=callOf_run h hcall hex
 obtain⟨hT,hbs⟩:=lendS_rel h hargs hlend (by rw[howns];simp)
 rw[howns] at hT hbs
 obtain⟨b0,hb0⟩:=hbs d0 (by simp)
 have hOf:∀ x,Of fs [d0] x→fs d0 x:=by
  rintro x ⟨d',hd',hx⟩
  have:d'=d0:=by simpa using hd'
  rwa [this] at hx
 unfold Oper.wp
 rw[hrun]
 rw[Oper.upon_enter]
 refine Calls.mono (hreal w (hX.at h.below) I _ (fun x hx hp=>hX.prot x hp (h.new d0 b0 hb0 x (hOf x hx)).1) vs hT h.lt ?_) ?_
 ·intro x hx
  exact⟨(h.new d0 b0 hb0 x (hOf x hx)).2,h.imm d0 b0 hb0 x (hOf x hx)⟩
 intro e w' he
 cases e with
 | returned v=>
  obtain⟨J,F',hR,hF',hJ,hKp⟩:=he
  have hd:=h.drop d0
  have hFB:∀ x,(Of fs [d0] x∨w.heap.size≤x)→B x:=fun x hx=>hx.elim (fun hx=>(h.new d0 b0 hb0 x (hOf x hx)).1) (fun hx=>h.size x hx)
  have hnot:∀ e b,blk (σ.drop d0).bl e=some b→∀ x,fs e x→¬ (Of fs [d0] x∨w.heap.size≤x):=by
   intro e b he x hx ho
   obtain⟨b',hne,hb'⟩:=drop_look he
   rcases ho with ho | ho
   ·exact h.disj e d0 b' b0 hb' hb0 hne x hx (hOf x ho)
   have:=(h.new e b' hb' x hx).2;omega
  have h1:Sim B W0 I0 I val fs (σ.drop d0) a w':=by
   refine hd.world (fun x hx=>hKp.block x ?_) (hKp.mono hFB)
   rcases hx with hx | ⟨e,b,he,hx⟩
   ·rintro(ho | ho)
    ·exact h.imm d0 b0 hb0 x (hOf x ho) hx
    have:=h.lt x hx;omega
   exact hnot e b he x hx
  have h2:=h1.addI (I':=fun x=>I x∨J x) (fun x hx=>.inl hx) (fun x hx=>by
   rcases hx with hx | hx
   ·exact h1.lt x hx
   ·exact(hJ x hx).2.1) (fun x hx=>by
   rcases hx with hx | hx
   ·exact h.old x hx
   ·rcases(hJ x hx).1 with hi | hi
    ·exact h.old x hi
    exact .inr (hFB x hi)) (fun e b he x hx hi=>by
   rcases hi with hi | hi
   ·exact h1.imm e b he x hx hi
   rcases(hJ x hi).1 with hi' | hi'
   ·exact h1.imm e b he x hx hi'
   exact hnot e b he x hx hi')
  obtain⟨val',fs',h3,h4⟩:=bindR_rel h2 (id:=d) (hR.monoI fun x hx=>.inr hx) (fun x hx=>⟨hFB x (hF' x hx).1,(hF' x hx).2⟩)
   (fun x hx hi=>by
    rcases hi with hi | hi
    ·rcases(hF' x hx).1 with ho | ho
     ·exact h.imm d0 b0 hb0 x (hOf x ho) hi
     have:=h.lt x hi;omega
    exact(hJ x hi).2.2 hx)
   (fun x hx e b he hf=>hnot e b he x hf (hF' x hx).1) hfree
  rw[hdst]
  exact hk _ _ _ ⟨_,val',fs',h3.put (some d) h4⟩ hK
 | panicked c=>exact he.elim
 | outgrown=>exact he.elim
theorem aopN_sound (hT:TyOk P T)(h:Sim B W0 I0 I val fs σ a w){K:St→Prop}{next:Act→World→Prop}{Q:Exit→Act→World→Prop}
  (hk:∀ σ' a' w',SimE B W0 I0 σ' a' w'→K σ'→next a' w') (ha:aopN T o K σ):o.wp P a w next Q:=by
 obtain⟨t,x,i,dd,d,ra,j,sz,rows,r,s,nrows,ho,hdst,ht,hag,hx,hd,hr,hj,hdd,hK⟩:=ha
 obtain⟨inf,z,hi,hsz,hby,hz,_,_,_,hkd⟩:=hT _ _ ht
 obtain⟨u,g,hg,hcell,val',fs',hS,hval⟩:=h.nest hd hr hj hdd
 have e:=h.eval x
 rw[hx] at e
 generalize hv:a.eval x=v at e
 cases e with
 | leaf c v hl h=>cases hl
 | pt d i' j' b g' hb hg'=>
  rw[hd] at hb
  cases hb
  rw[hg] at hg'
  cases hg'
  have hload:(loadVar t ⟨g,ra * sz+j,none⟩).run P w=.ok u w:=by
   unfold loadVar
   rw[Sem.run_bind,hkd.agg w,Result.andThen_ok,hag]
   simp[load,Sem.run,hcell]
  have hrun:(execOp a.eval o).run P w=.ok (.value u) w:=by simp[execOp,ho,hv,Instr.loadAt,Instr.sureAddr,hload]
  have hp:=hS.put (some dd) (c:=.own dd) (v:=u) (by
   have:=RelS.own (w:=w) (I:=I) (val:=val') (bl:=(dd,(⟨.arr,s,nrows⟩:Blk))::setB σ.bl d ⟨.arr,sz,rows.set ra (setL r j (.raw u))⟩) dd _ (by rw[blk_cons,if_pos rfl]) (by intro h;cases h)
   rwa [hval] at this)
  unfold Oper.wp
  rw[hrun]
  show next (a.put o.dst u) w
  rw[hdst]
  exact hk _ _ _ ⟨_,_,_,hp⟩ (hK u)
theorem aop0_sound (hT:TyOk P T)(hX:AllReal P X B W0)(h:Sim B W0 I0 I val fs σ a w){K:St→Prop}{next:Act→World→Prop}{Q:Exit→Act→World→Prop}
    (hk:∀ σ' a' w',SimE B W0 I0 σ' a' w'→K σ'→next a' w') (ha:aop0 T X o K σ):o.wp P a w next Q:=by
  unfold aop0 at ha
  split at ha
  · rename_i g args d hcall hd
    obtain⟨r,hr,hfresh,hfin⟩:=ha
    unfold callOf at hcall
    split at hcall
    case h_2=>cases hcall
    rename_i c hop
    split at hcall
    case h_2=>cases hcall
    rename_i f hcal
    split at hcall
    case h_2=>cases hcall
    rename_i g' caps hfv
    simp only[Option.some.injEq,Prod.mk.injEq] at hcall
    obtain⟨rfl,rfl⟩:=hcall
    have hv:=h.eval f
    rw[hfv] at hv
    obtain⟨cvs,hv,hcv⟩:=rel_fn hv
    obtain⟨⟨fn,cd,hfn,hbd,hnm⟩,hreal⟩:=hX.real.r _ _ _ hr
    have hargs:RelSL w I val σ.bl (c.args.toList.map σ.get++caps) (c.args.toList.map a.eval++cvs):=(RelSL.evals h _).append hcv
    have hrun:(execOp a.eval o).run P w=.ok (.enter g' (c.args.toList.map a.eval++cvs).toArray) w:=by
      have he:(c.args.toList.map a.eval++cvs).toArray=#[]++c.args.map a.eval++cvs.toArray:=by
        apply Array.ext';simp
      rw[he]
      obtain⟨callee,as,tys⟩:=c
      simp only at hcal
      subst hcal
      have:execOp a.eval o=callFunc g' (#[]++as.map a.eval++cvs.toArray):=by
        simp only[execOp,hop,resolve,hv,Deferred.ofValue]
        rfl
      rw[this]
      exact run_call hfn hbd hnm _ _
    unfold Oper.wp
    rw[hrun]
    rw[Oper.upon_enter]
    have fin:∀(v:Value) (w':World) (J F:Ft),RelR w' J r v F→(∀ x,F x→w.heap.size≤x∧x < w'.heap.size)→(∀ x,J x→(I x∨w.heap.size≤x)∧x < w'.heap.size∧¬ F x)→Below w.heap.size w w'→next (a.put o.dst v) w':=by
      intro v w' J F hR hF hJ hB
      rw[hd]
      rcases hfin with ⟨hfree,hK⟩ | hK
      · exact hk _ _ _ (h.bind hR hF hJ hB hfree) hK
      · exact hk _ _ _ (h.bindF hR hF hJ hB) hK
    rcases hfresh with hfresh | hno
    · refine Calls.mono (hreal w (hX.at h.below) (fun x=>I x∨∃ e b,blk σ.bl e=some b∧fs e x) _ val (hargs.view (fs:=fs) h.blocks (fun x hx=>.inl hx) (fun e b he x hx=>.inr ⟨e,b,he,hx⟩)) ?_) ?_
      · intro x hx
        rcases hx with hx | ⟨e,b,he,hx⟩
        · exact h.lt x hx
        · exact(h.new e b he x hx).2
      · intro e w' he
        cases e with
        | returned v=>
          obtain⟨J,F,hR,hF,hJ,hB⟩:=he
          exact fin v w' none' F (hR.fresh hfresh) hF (fun x hx=>hx.elim) hB
        | panicked c=>exact he.elim
        | outgrown=>exact he.elim
    · refine Calls.mono (hreal w (hX.at h.below) I _ val (hargs.noH hno) h.lt) ?_
      intro e w' he
      cases e with
      | returned v=>
        obtain⟨J,F,hR,hF,hJ,hB⟩:=he
        exact fin v w' J F hR hF hJ hB
      | panicked c=>exact he.elim
      | outgrown=>exact he.elim
  · split at ha
    · rename_i σ' hs
      exact(step_sound hT h hs).wp fun a' w' hS=>hk _ _ _ hS ha
    · exact ha.elim
theorem aop5_sound (hT:TyOk P T)(hX:AllReal P X B W0)(h:Sim B W0 I0 I val fs σ a w){K:St→Prop}{next:Act→World→Prop}{Q:Exit→Act→World→Prop}
  (hk:∀ σ' a' w',SimE B W0 I0 σ' a' w'→K σ'→next a' w') (ha:aop0 T X o K σ∨aopM X o K σ∨aopN T o K σ∨aopQ T o K σ∨aopC X o K σ):o.wp P a w next Q:=by
 rcases ha with ha | ha | ha | ha | ha
 ·exact aop0_sound hT hX h hk ha
 ·exact aopM_sound hX h hk ha
 ·exact aopN_sound hT h hk ha
 ·exact aopQ_sound hT h hk ha
 exact aopC_sound hX h hk ha
theorem dstOf_spec :∀(l:List Oper) (j:Nat) (t:Tmp),dstOf l j=some t→(l[j]?).bind (·.dst)=some t
 | [],_,_,h=>by cases h
 | o::_,0,t,h=>by simpa [dstOf] using h
 | _::l,j+1,t,h=>by simpa using dstOf_spec l j t h
theorem yielded_slot (h:Sim B W0 I0 I val fs σ a w){ops:Array Oper}{j:Nat}{t:Tmp}(hd:dstOf ops.toList j=some t){b:Bool}(hb:getL σ.sl t=.bool b):yielded ops a.tmps j=some b:=by
  have h1:=dstOf_spec _ _ _ hd
  rw[Array.getElem?_toList] at h1
  unfold yielded
  rw[h1]
  have hlen:=h.slots.len
  have h2:=h.slots.get t undef
  rw[hb] at h2
  have h3:=rel_bool h2
  have hlt:t < a.tmps.size:=by
    rcases Nat.lt_or_ge t a.tmps.size with hl | hl
    · exact hl
    · exfalso
      have:getL σ.sl t=.bad:=by
        have hl':σ.sl.length≤t:=by rw[← hlen];simpa using hl
        clear h3 h2 hlen h1 hd hb h hl
        revert hl'
        generalize σ.sl=l
        induction l generalizing t with
        | nil=>intro _;cases t<;>rfl
        | cons c l ih=>intro hl';cases t with
          | zero=>simp at hl'
          | succ t=>exact ih (t:=t) (by simpa using hl')
      rw[this] at hb
      cases hb
  have:a.tmps[t]? =some (.bool b):=by
    rw[Array.getElem?_eq_getElem hlt]
    simp only[List.getD_eq_getElem?_getD,Array.getElem?_toList,Array.getElem?_eq_getElem hlt,Option.getD_some] at h3
    rw[h3]
  simp[this]
end
end Go.Av

/- The abstract walk is sound: regions in the order of their text. -/
import Derived.Test.YtjbokkoiicoahaaGreatDoorAvw
namespace Go.Av
open Go Go.RowKit
set_option linter.unusedVariables false
set_option linter.unusedSimpArgs false
section
variable {P : Program} {T : Tys} {X : Spec} {B : Ft} {W0 : World} {I0 : Ft} {σ σ' : St} {a : Act} {w w' : World} {o : Oper} {ops : Array Oper} {Q : Exit → Act → World → Prop}
variable {I : Ft} {val : Nat → Value} {fs : Nat → Ft}
mutual
theorem RelS.thaw {I':Ft}(hII:∀ x,I x→I' x){d:Nat}{b:Blk}{pv:PV}{bl:List (Nat × Blk)}(hb:blk bl d=some b)(hpl:leafB pv=true)(hp:RelV w I' pv (val d) none'){bl':List (Nat × Blk)}(hE:Less d bl bl'):
  ∀{c:PV} {v:Value},RelS w I val bl c v→RelS w I' val bl' (Av.thaw d pv c) v
 | _,_,.leaf c v hl h=>by
  have hv:Av.thaw d pv c=c:=by cases c<;>first | rfl | simp[leafB] at hl
  rw[hv]
  exact .leaf _ _ hl (h.frame (SameOn.refl _ _) hII (SameOn.refl _ _))
 | _,_,.own e be he hk=>by
  simp only[Av.thaw]
  by_cases h0:e=d
  ·subst h0
   simp only[beq_true,cond_true]
   exact .leaf _ _ hpl hp
  simp only[beq_false h0,cond_false]
  obtain⟨b',hb',hs,hk'⟩:=hE e be h0 he
  exact .own e b' hb' (by rw[hk'];exact hk)
 | _,_,.pt e i j be g he hg=>by
  simp only[Av.thaw]
  by_cases h0:e=d
  ·subst h0
   simp only[beq_true,cond_true]
   exact .bad _
  simp only[beq_false h0,cond_false]
  obtain⟨b',hb',hs,hk'⟩:=hE e be h0 he
  rw[← hs]
  exact .pt e i j b' g hb' hg
 | _,_,.rd cs a vs hb' hs hc hr=>.rd cs a vs (fun h=>hII _ (hb' h)) hs hc (RelL.frame (SameOn.refl _ _) hII hr (SameOn.refl _ _))
 | _,_,.agg cs vs h=>.agg _ vs (RelSL.thaw hII hb hpl hp hE h)
 | _,_,.tup cs vs h=>.tup _ vs (RelSL.thaw hII hb hpl hp hE h)
 | _,_,.fn f cs vs h=>.fn f _ vs (RelSL.thaw hII hb hpl hp hE h)
 | _,_,.bad v=>.bad v
theorem RelSL.thaw {I':Ft}(hII:∀ x,I x→I' x){d:Nat}{b:Blk}{pv:PV}{bl:List (Nat × Blk)}(hb:blk bl d=some b)(hpl:leafB pv=true)(hp:RelV w I' pv (val d) none'){bl':List (Nat × Blk)}(hE:Less d bl bl'):
  ∀{l:List PV} {vs:List Value},RelSL w I val bl l vs→RelSL w I' val bl' (Av.thawS d pv l) vs
 | _,_,.nil=>.nil
 | _,_,.cons c l v vs h t=>.cons _ _ v vs (RelS.thaw hII hb hpl hp hE h) (RelSL.thaw hII hb hpl hp hE t)
end
def thawK (d:Nat)(v:PV):Blk→Blk
 | ⟨.arr,sz,rows⟩=>⟨.arr,sz,rows⟩
 | ⟨k,sz,[r]⟩=>⟨k,sz,[thawS d v r]⟩
 | ⟨k,sz,_⟩=>⟨k,sz,[]⟩
theorem thawK_k (d:Nat)(v:PV)(b:Blk):(thawK d v b).k=b.k∧(thawK d v b).sz=b.sz:=by
 obtain⟨k,sz,rows⟩:=b
 cases k<;>first | exact⟨rfl,rfl⟩ | (match rows with | []=>exact⟨rfl,rfl⟩ | [r]=>exact⟨rfl,rfl⟩ | _::_::_=>exact⟨rfl,rfl⟩)
theorem blk_thawB (d:Nat)(v:PV)(e:Nat):∀(l:List (Nat × Blk)),blk (thawB d v l) e=(blk l e).map (thawK d v)
 | []=>rfl
 | (f,c)::l=>by
  have hc:thawB d v ((f,c)::l)=(f,thawK d v c)::thawB d v l:=by
   obtain⟨k,sz,rows⟩:=c
   cases k<;>first | rfl | (match rows with | []=>rfl | [r]=>rfl | _::_::_=>rfl)
  rw[hc,blk_cons,blk_cons,blk_thawB d v e l]
  by_cases h:f=e<;>simp[h]
theorem thawS_length (d:Nat)(v:PV):∀ l:List PV,(thawS d v l).length=l.length
 | []=>rfl
 | _::l=>by simp[thawS,thawS_length d v l]
theorem less_thaw (d:Nat)(v:PV)(bl:List (Nat × Blk)):Less d bl (thawB d v (delB bl d)):=by
 intro e b hne hb
 refine⟨thawK d v b,?_,(thawK_k d v b).2,(thawK_k d v b).1⟩
 rw[blk_thawB,blk_delB,if_neg (Ne.symm hne),hb]
 rfl
theorem BlkR.thaw {I':Ft}(hII:∀ x,I x→I' x){d:Nat}{b0:Blk}{pv:PV}{bl:List (Nat × Blk)}(hb0:blk bl d=some b0)(hpl:leafB pv=true)(hp:RelV w I' pv (val d) none'){bl':List (Nat × Blk)}(hE:Less d bl bl')
  {b:Blk} {v:Value} {F:Ft} (h:BlkR w I val bl b v F):BlkR w I' val bl' (thawK d pv b) v F:=by
 obtain⟨k,sz,rows⟩:=b
 cases k with
 | arr=>
  obtain⟨e,xs,G,hu,how,hR,hG,hob⟩:=h
  exact⟨e,xs,G,hu,how,hR.frame (SameOn.refl _ _) hII (SameOn.refl _ _),hG,hob⟩
 | var=>
  match rows,h with
  | [r],h=>
   obtain⟨g,hv',T,c,hg,hh,hs,hl,h1⟩:=h
   exact⟨g,hv',T,c,hg,hh,hs.thaw hII hb0 hpl hp hE,by rw[thawS_length];exact hl,h1⟩
 | lit=>
  match rows,h with
  | [r],h=>
   obtain⟨g,hv',h0,T,c,hg,hh,hs,hl,h1⟩:=h
   exact⟨g,hv',h0,T,c,hg,hh,hs.thaw hII hb0 hpl hp hE,by rw[thawS_length];exact hl,h1⟩
theorem Sim.freeze (h:Sim B W0 I0 I val fs σ a w){d sz:Nat}{rows:List (List PV)}(hd:blk σ.bl d=some ⟨.arr,sz,rows⟩):
  SimE B W0 I0 {sl:=thawS d (.sl sz (eraseR rows)) σ.sl,bl:=thawB d (.sl sz (eraseR rows)) (delB σ.bl d),hd:=delV σ.hd d} a w:=by
 obtain⟨e,xs,G,hu,how,hR,hG,hob⟩:=h.blocks d _ hd
 have hII:∀ x,I x→I x∨fs d x:=fun x hx=>.inl hx
 have hp:RelV w (fun x=>I x∨fs d x) (.sl sz (eraseR rows)) (val d) none':=by
  have:=RelV.erase (J:=fun x=>I x∨fs d x) hII (RelV.ow (w:=w) (I:=I) sz rows (val d) e xs (fs d) G hu how hR hG hob) (fun x hx=>.inr hx)
  simpa [Av.erase] using this
 have look:∀ e c,blk (thawB d (.sl sz (eraseR rows)) (delB σ.bl d)) e=some c→∃ b,e≠d∧blk σ.bl e=some b∧c=thawK d (.sl sz (eraseR rows)) b:=by
  intro e c he
  rw[blk_thawB,blk_delB] at he
  by_cases h0:d=e
  ·rw [if_pos h0] at he;cases he
  rw[if_neg h0] at he
  cases hb:blk σ.bl e with
  | none=>rw[hb] at he;cases he
  | some b=>rw[hb] at he;exact⟨b,Ne.symm h0,rfl,by simpa using he.symm⟩
 refine⟨fun x=>I x∨fs d x,val,fs,{slots:=h.slots.thaw hII hd rfl hp (less_thaw _ _ _),blocks:=fun e c he=> ?_,disj:=fun e e' c c' he he' hne=> ?_,imm:=fun e c he x hx hi=> ?_,new:=fun e c he=> ?_,lt:=fun x hx=> ?_,old:=fun x hx=> ?_,below:=h.below,size:=h.size,heads:=fun e v he=> ?_,defers:=h.defers}⟩
 ·obtain⟨b,_,hb,rfl⟩:=look e c he
  exact(h.blocks e b hb).thaw hII hd rfl hp (less_thaw _ _ _)
 ·obtain⟨b,_,hb,_⟩:=look e c he
  obtain⟨b',_,hb',_⟩:=look e' c' he'
  exact h.disj _ _ _ _ hb hb' hne
 ·obtain⟨b,hne,hb,_⟩:=look e c he
  rcases hi with hi | hi
  ·exact h.imm _ _ hb x hx hi
  exact h.disj _ _ _ _ hb hd hne x hx hi
 ·obtain⟨b,_,hb,_⟩:=look e c he;exact h.new _ _ hb
 ·rcases hx with hx | hx
  ·exact h.lt x hx
  exact(h.new d _ hd x hx).2
 ·rcases hx with hx | hx
  ·exact h.old x hx
  exact .inr (h.new d _ hd x hx).1
 obtain⟨hne,he⟩:=lookV_del he
 obtain⟨h1,c,hc⟩:=h.heads e v he
 exact⟨h1,_,by show blk (thawB d _ (delB σ.bl d)) e=_;rw[blk_thawB,blk_delB,if_neg (Ne.symm hne),hc];rfl⟩
theorem rel_zc {v:Value}{bl:List (Nat × Blk)}(h:RelS w I val bl .zc v):v=.slice none 0 0:=by
 cases h with
 | leaf c v hl h=>cases h;rfl
theorem arr_nil (sz:Nat):ArrR w I sz [] (.slice none 0 0) none':=
 ⟨0,[],none',fun r hr=>by simp at hr,⟨by simp,.inl ⟨rfl,rfl⟩⟩,.nil _,fun _ h=>h,fun b hb=>by cases hb⟩
theorem Sim.nilBlk (h:Sim B W0 I0 I val fs σ a w){d:Nat}(hd:blk σ.bl d=none)(sz:Nat):
  Sim B W0 I0 I (upd val d (.slice none 0 0)) (upd fs d none') {σ with bl:=(d,⟨.arr,sz,[]⟩)::σ.bl} a w:=
 h.newBlk hd (arr_nil sz) (fun x hx=>hx.elim) (fun x hx=>hx.elim) (fun x hx=>hx.elim)
theorem RelSL.setNew {bl:List (Nat × Blk)}:∀{l:List PV} {vs:List Value},RelSL w I val bl l vs→∀(k:Nat) {c:PV},(∀ v,RelS w I val bl (getL l k) v→RelS w I val bl c v)→RelSL w I val bl (setL l k c) vs
 | _,_,.nil,_,_,_=>.nil
 | _,_,.cons c l v vs h t,0,_,hc=>.cons _ _ _ _ (hc v h) t
 | _,_,.cons c l v vs h t,k+1,_,hc=>.cons _ _ _ _ h (t.setNew k hc)
theorem nil_own {d sz:Nat}{bl:List (Nat × Blk)}(hd:blk bl d=some ⟨.arr,sz,[]⟩)(hv:val d=.slice none 0 0){v:Value}(h:RelS w I val bl .zc v):RelS w I val bl (.own d) v:=by
 rw[rel_zc h,← hv]
 exact .own d _ hd (by intro h;cases h)
theorem Sim.slotNil (h:Sim B W0 I0 I val fs σ a w){k d:Nat}(hz:getL σ.sl k=.zc)(hd:blk σ.bl d=none)(sz:Nat):SimE B W0 I0 {σ with sl:=setL σ.sl k (.own d),bl:=(d,⟨.arr,sz,[]⟩)::σ.bl} a w:=by
 have h1:=h.nilBlk hd sz
 refine⟨I,_,_,{h1 with slots:=h1.slots.setNew k fun v hv=> ?_}⟩
 have hv':RelS w I (upd val d (.slice none 0 0)) ((d,⟨.arr,sz,[]⟩)::σ.bl) (getL σ.sl k) v:=hv
 rw[hz] at hv'
 exact nil_own (by rw[blk_cons,if_pos rfl]) (upd_same _ _ _) hv'
theorem Sim.cellNil (h:Sim B W0 I0 I val fs σ a w){b j d n:Nat}{r:List PV}(hb:blk σ.bl b=some ⟨.var,n,[r]⟩)(hz:getL r j=.zc)(hd:blk σ.bl d=none)(sz:Nat):
  SimE B W0 I0 {σ with bl:=(d,⟨.arr,sz,[]⟩)::setB σ.bl b ⟨.var,n,[setL r j (.own d)]⟩} a w:=by
 have h1:=h.nilBlk hd sz
 have hne:b≠d:=by rintro rfl;rw[hd] at hb;cases hb
 have hE:Ext ((d,⟨.arr,sz,[]⟩)::σ.bl) ((d,⟨.arr,sz,[]⟩)::setB σ.bl b ⟨.var,n,[setL r j (.own d)]⟩) (upd val d (.slice none 0 0)) (upd val d (.slice none 0 0)):=by
  intro e c he
  refine⟨?_,rfl⟩
  rw[blk_cons] at he ⊢
  by_cases h0:d=e
  ·rw [if_pos h0] at he ⊢;exact⟨c,he,rfl,rfl⟩
  rw[if_neg h0] at he ⊢
  rw[blk_setB]
  by_cases h2:b=e
  ·subst h2
   rw[hb] at he
   cases he
   rw[if_pos rfl]
   exact⟨_,rfl,rfl,rfl⟩
  rw[if_neg h2];exact⟨c,he,rfl,rfl⟩
 have look:∀ e c,blk ((d,⟨.arr,sz,[]⟩)::setB σ.bl b ⟨.var,n,[setL r j (.own d)]⟩) e=some c→∃ c',blk ((d,⟨.arr,sz,[]⟩)::σ.bl) e=some c'∧((e=b∧c=⟨.var,n,[setL r j (.own d)]⟩∧c'=⟨.var,n,[r]⟩)∨c=c'):=by
  intro e c he
  rw[blk_cons] at he ⊢
  by_cases h0:d=e
  ·rw [if_pos h0] at he ⊢;exact⟨c,he,.inr rfl⟩
  rw[if_neg h0] at he ⊢
  rw[blk_setB] at he
  by_cases h2:b=e
  ·subst h2
   rw[if_pos rfl] at he
   exact⟨_,hb,.inl ⟨rfl,by simpa using he.symm,rfl⟩⟩
  rw[if_neg h2] at he;exact⟨c,he,.inr rfl⟩
 refine⟨I,upd val d (.slice none 0 0),upd fs d none',{slots:=h1.slots.frame (SameOn.refl _ _) (fun _ h=>h) hE,blocks:=fun e c he=> ?_,disj:=fun e e' c c' he he' hne=> ?_,imm:=fun e c he=> ?_,new:=fun e c he=> ?_,lt:=h.lt,old:=h.old,below:=h.below,size:=h.size,heads:=fun e v he=> ?_,defers:=h.defers}⟩
 ·obtain⟨c',hc',⟨rfl,rfl,rfl⟩ | rfl⟩:=look e c he
  ·obtain⟨g,hv',T,cc,hg,hh,hs,hl,h1'⟩:=h1.blocks _ _ hc'
   refine⟨g,hv',T,cc,hg,hh,?_,by rw[setL_length];exact hl,h1'⟩
   refine(hs.frame (SameOn.refl _ _) (fun _ h=>h) hE).setNew j fun v hv=> ?_
   rw[hz] at hv
   exact nil_own (by rw[blk_cons,if_pos rfl]) (upd_same _ _ _) hv
  exact(h1.blocks e c hc').frame (SameOn.refl _ _) (fun _ h=>h) hE (SameOn.refl _ _)
 ·obtain⟨b1,hb1,_⟩:=look e c he
  obtain⟨b2,hb2,_⟩:=look e' c' he'
  exact h1.disj _ _ _ _ hb1 hb2 hne
 ·obtain⟨b1,hb1,_⟩:=look e c he;exact h1.imm _ _ hb1
 ·obtain⟨b1,hb1,_⟩:=look e c he;exact h1.new _ _ hb1
 obtain⟨h2,c,hc⟩:=h1.heads e v he
 obtain⟨⟨c',hc',_⟩,_⟩:=hE e c hc
 exact⟨h2,c',hc'⟩
theorem Sim.reorder {I:Ft}{val:Nat→Value}{fs:Nat→Ft}(h:Sim B W0 I0 I val fs σ a w){bl':List (Nat × Blk)}(hb:∀ d,blk bl' d=blk σ.bl d):Sim B W0 I0 I val fs {σ with bl:=bl'} a w:=by
 have hE:Ext σ.bl bl' val val:=fun d b hd=>⟨⟨b,by rw[hb];exact hd,rfl,rfl⟩,rfl⟩
 refine{slots:=RelSL.frame (SameOn.refl _ _) (fun _ h=>h) hE h.slots,blocks:=fun e c he=> ?_,disj:=fun e e' c c' he he'=> ?_,imm:=fun e c he=> ?_,new:=fun e c he=> ?_,lt:=h.lt,old:=h.old,below:=h.below,size:=h.size,heads:=fun e v he=> ?_,defers:=h.defers}
 ·have he:blk bl' e=some c:=he
  rw[hb] at he
  exact(h.blocks e c he).frame (SameOn.refl _ _) (fun _ h=>h) hE (SameOn.refl _ _)
 ·have he:blk bl' e=some c:=he
  have he':blk bl' e'=some c':=he'
  rw[hb] at he he'
  exact h.disj e e' c c' he he'
 ·have he:blk bl' e=some c:=he
  rw[hb] at he;exact h.imm e c he
 ·have he:blk bl' e=some c:=he
  rw[hb] at he;exact h.new e c he
 obtain⟨h2,c,hc⟩:=h.heads e v he
 exact⟨h2,c,by show blk bl' e=some c;rw[hb];exact hc⟩
theorem blk_up {bl:List (Nat × Blk)}{d:Nat}{b:Blk}(hd:blk bl d=some b)(e:Nat):blk ((d,b)::delB bl d) e=blk bl e:=by
 show(bif nq d e then some b else blk (delB bl d) e)=_
 cases hde:nq d e with
 | true=>rw[← nq_eq hde,hd];rfl
 | false=>
  have hne:¬ d=e:=fun h=>by subst h;rw[nq_self] at hde;cases hde
  rw[blk_delB,if_neg hne];rfl
mutual
theorem RelS.litArr {bl:List (Nat × Blk)}{d sz:Nat}{rows:List (List PV)}(hd:blk bl d=some ⟨.lit,sz,rows⟩):∀{c:PV} {v:Value},RelS w I val bl c v→RelS w I val (setB bl d ⟨.arr,sz,rows⟩) c v
 | _,_,.leaf c v hl h=>.leaf c v hl h
 | _,_,.own e b hb hk=>by
  by_cases he:d=e
  ·subst he;exact .own d ⟨.arr,sz,rows⟩ (by rw[blk_setB,if_pos rfl]) (by intro h;cases h)
  exact .own e b (by rw[blk_setB,if_neg he];exact hb) hk
 | _,_,.pt e i j b g hb hg=>by
  by_cases he:d=e
  ·subst he
   rw[hd] at hb;cases hb
   exact .pt d i j ⟨.arr,sz,rows⟩ g (by rw[blk_setB,if_pos rfl]) hg
  exact .pt e i j b g (by rw[blk_setB,if_neg he];exact hb) hg
 | _,_,.rd cs a vs hb hs hc hr=>.rd cs a vs hb hs hc hr
 | _,_,.agg cs vs h=>.agg cs vs (RelSL.litArr hd h)
 | _,_,.tup cs vs h=>.tup cs vs (RelSL.litArr hd h)
 | _,_,.fn f cs vs h=>.fn f cs vs (RelSL.litArr hd h)
 | _,_,.bad v=>.bad v
theorem RelSL.litArr {bl:List (Nat × Blk)}{d sz:Nat}{rows:List (List PV)}(hd:blk bl d=some ⟨.lit,sz,rows⟩):∀{l:List PV} {vs:List Value},RelSL w I val bl l vs→RelSL w I val (setB bl d ⟨.arr,sz,rows⟩) l vs
 | _,_,.nil=>.nil
 | _,_,.cons c l v vs h t=>.cons c l v vs (RelS.litArr hd h) (RelSL.litArr hd t)
end
theorem RelSL.leafs {bl:List (Nat × Blk)}:∀{l:List PV} {vs:List Value},RelSL w I val bl l vs→allB leafB l=true→RelL w I l vs none'
 | _,_,.nil,_=>.nil _
 | _,_,.cons c l v vs h t,ha=>by
  simp only[allB,Bool.and_eq_true] at ha
  have hv:RelV w I c v none':=by
   cases h with
   | leaf c v hl h=>exact h
   | own d b hb hk=>simp[leafB] at ha
   | pt d i j b g hb hg=>simp[leafB] at ha
   | rd cs a vs hb hs hc hr=>simp[leafB] at ha
   | agg cs vs h=>simp[leafB] at ha
   | tup cs vs h=>simp[leafB] at ha
   | fn f cs vs h=>simp[leafB] at ha
   | bad v=>simp[leafB] at ha
  exact .cons _ _ _ _ _ _ _ hv (RelSL.leafs t ha.2) (fun _ h=>h.elim) (fun _ h=>h.elim) (fun _ h=>h.elim)
theorem BlkR.litArr {bl:List (Nat × Blk)}{d sz:Nat}{rows:List (List PV)}(hd:blk bl d=some ⟨.lit,sz,rows⟩){b:Blk}{v:Value}{F:Ft}(h:BlkR w I val bl b v F):BlkR w I val (setB bl d ⟨.arr,sz,rows⟩) b v F:=by
 have key:∀{sz0:Nat} {r:List PV} {g:Nat},CellsR w I val bl sz0 r g F→CellsR w I val (setB bl d ⟨.arr,sz,rows⟩) sz0 r g F:=by
  rintro sz0 r g ⟨T,c,h1,h2,h3,h4,h5⟩;exact⟨T,c,h1,h2,h3.litArr hd,h4,h5⟩
 obtain⟨k,s,rs⟩:=b
 cases k with
 | arr=>exact h
 | var=>match rs,h with | [r],⟨g,h1,h2⟩=>exact⟨g,h1,key h2⟩
 | lit=>match rs,h with | [r],⟨g,h1,h0,h2⟩=>exact⟨g,h1,h0,key h2⟩
theorem Sim.litArr (h:Sim B W0 I0 I val fs σ a w){d sz:Nat}{r:List PV}(hd:blk σ.bl d=some ⟨.lit,sz,[r]⟩)(hl:allB leafB r=true):
  Sim B W0 I0 I val fs {σ with bl:=setB σ.bl d ⟨.arr,sz,[r]⟩} a w:=by
 have look:∀ e c,blk (setB σ.bl d ⟨.arr,sz,[r]⟩) e=some c→∃ b,blk σ.bl e=some b:=by
  intro e c he
  rw[blk_setB] at he
  by_cases h0:d=e
  ·subst h0;exact⟨_,hd⟩
  rw[if_neg h0] at he;exact⟨c,he⟩
 refine{slots:=h.slots.litArr hd,blocks:=fun e c he=> ?_,disj:=fun e e' c c' he he' hne=> ?_,imm:=fun e c he=> ?_,new:=fun e c he=> ?_,lt:=h.lt,old:=h.old,below:=h.below,size:=h.size,heads:=fun e v he=> ?_,defers:=h.defers}
 ·have he:blk (setB σ.bl d ⟨.arr,sz,[r]⟩) e=some c:=he
  rw[blk_setB] at he
  by_cases h0:d=e
  ·subst h0
   rw[if_pos rfl] at he;cases he
   obtain⟨g,hv,hp,T,c,h1,h2,h3,h4,h5⟩:=h.blocks d _ hd
   have hlen:c.toList.length=sz:=by rw[h3.len,h4]
   refine⟨T,c.toList,none',by simpa using h4,⟨by simp[hlen],.inr ⟨g,1,c,by rw[hv];rfl,Nat.zero_le _,h2,Nat.le_refl _,by decide,?_,?_⟩⟩,by simpa using h3.leafs hl,fun _ hh=>hh.elim,?_⟩
   ·rw [Nat.one_mul,← hlen];simp
   ·rw [List.length_singleton,Nat.one_mul,← hlen];exact List.take_length
   intro b hb
   rw[hv] at hb
   simp only[Value.ownBlock] at hb
   cases hb
   exact⟨h1,fun hh=>hh.elim⟩
  rw[if_neg h0] at he
  exact(h.blocks e c he).litArr hd
 ·obtain⟨b,hb⟩:=look e c he
  obtain⟨b',hb'⟩:=look e' c' he'
  exact h.disj _ _ _ _ hb hb' hne
 ·obtain⟨b,hb⟩:=look e c he;exact h.imm _ _ hb
 ·obtain⟨b,hb⟩:=look e c he;exact h.new _ _ hb
 obtain⟨h1,c,hc⟩:=h.heads e v he
 refine⟨h1,?_⟩
 show ∃ b,blk (setB σ.bl d ⟨.arr,sz,[r]⟩) e=some b
 rw[blk_setB]
 by_cases h0:d=e
 ·exact⟨_,by rw[if_pos h0]⟩
 exact⟨c,by rw[if_neg h0];exact hc⟩
theorem close1_rel (h:Sim B W0 I0 I val fs σ a w){c c':PV}{v:Value}(hc:RelS w I val σ.bl c v)(ha:close1 σ c=some (c',σ')):
  ∃ F,Sim B W0 I0 I val fs σ' a w∧RelR1 w I c' v F∧(∀ x,F x→∃ d b,blk σ.bl d=some b∧blk σ'.bl d=none∧fs d x)∧Sub σ.bl σ'.bl:=by
 have abs:absorb1 σ c=some (c',σ')→∃ F,Sim B W0 I0 I val fs σ' a w∧RelR1 w I c' v F∧(∀ x,F x→∃ d b,blk σ.bl d=some b∧blk σ'.bl d=none∧fs d x)∧Sub σ.bl σ'.bl:=by
  intro ha
  obtain⟨F,h1,h2,h3,h4⟩:=absorb1_rel h hc ha
  exact⟨F,h1,.one _ _ _ h2,h3,h4⟩
 unfold close1 at ha
 split at ha
 ·rename_i cs
  split at ha
  case h_2=>cases ha
  rename_i cs' σ1 habs
  simp only[Option.some.injEq,Prod.mk.injEq] at ha
  obtain⟨rfl,rfl⟩:=ha
  cases hc with
  | leaf c v hl h=>cases hl
  | agg cs vs hsl=>
   obtain⟨F,h1,h2,h3,h4,_⟩:=absorbL_rel h hsl habs
   exact⟨F,h1,.agg _ _ _ h2,h3,h4⟩
 ·rename_i d
  split at ha
  ·rename_i sz r hb
   split at ha
   case h_2=>cases ha
   rename_i r' σ1 habs
   simp only[Option.some.injEq,Prod.mk.injEq] at ha
   obtain⟨rfl,rfl⟩:=ha
   have hvd:v=val d:=by cases hc with
    | leaf c v hl h=>cases hl
    | own d b hb hk=>rfl
   subst hvd
   obtain⟨g,hvd,_,T',c',hfg,hh,hsl,hrl,_⟩:=h.blocks d _ hb
   obtain⟨F,hS1,hRF,hgone,hsub,hclen⟩:=absorbL_rel (h.drop d) hsl habs
   have hF:∀ x,F x→∃ d1 b1,d1≠d∧blk σ.bl d1=some b1∧blk σ1.bl d1=none∧fs d1 x:=by
    intro x hx
    obtain⟨d1,c1,hd1,hn1,hf1⟩:=hgone x hx
    obtain⟨c0,hc0,_⟩:=sub_drop σ.bl d d1 c1 hd1
    refine⟨d1,c0,?_,hc0,hn1,hf1⟩
    rintro rfl
    have:blk (killB d1 (delB σ.bl d1)) d1=some c1:=hd1
    rw[blk_killB,blk_delB,if_pos rfl] at this
    cases this
   have hlen:c'.toList.length=sz:=by rw[hsl.len,hrl]
   refine⟨fun x=>x=g∨F x,hS1,?_,fun x hx=> ?_,(sub_drop σ.bl d).trans hsub⟩
   ·rw [hvd]
    refine .one _ _ _ (.ow sz [r'] _ T' c'.toList _ F (fun r0 hr0=> ?_) ⟨by simp[hlen],.inr ⟨g,1,c',rfl,Nat.zero_le _,hh,Nat.le_refl _,?_,?_,?_⟩⟩ (by simpa using hRF) (fun x hx=>.inr hx) (fun b hb'=> ?_))
    ·simp at hr0;subst hr0;rw[hclen];exact hrl
    ·decide
    ·rw [Nat.one_mul,← hlen];simp
    ·rw [List.length_singleton,Nat.one_mul,← hlen];exact List.take_length
    have hbg:b=g:=by simpa [Value.ownBlock] using hb'.symm
    subst hbg
    refine⟨.inl rfl,fun hx=> ?_⟩
    obtain⟨d1,b1,hne,hb1,_,hf1⟩:=hF b hx
    exact h.disj d1 d _ _ hb1 hb hne b hf1 hfg
   rcases hx with rfl | hx
   ·refine⟨d,_,hb,?_,hfg⟩
    cases hq:blk σ1.bl d with
    | none=>rfl
    | some q=>
     obtain⟨q',hq',_⟩:=hsub d q hq
     have:blk (killB d (delB σ.bl d)) d=some q':=hq'
     rw[blk_killB,blk_delB,if_pos rfl] at this
     cases this
   obtain⟨d1,b1,_,hb1,hn1,hf1⟩:=hF x hx
   exact⟨d1,b1,hb1,hn1,hf1⟩
  exact abs ha
 exact abs ha
theorem set_getD (vs:List Value)(k:Nat)(d:Value):vs.set k (vs.getD k d)=vs:=by
 apply List.ext_getElem?
 intro i
 rw[List.getElem?_set]
 by_cases h:k=i
 ·subst h
  by_cases hl:k < vs.length
  ·simp [hl]
  simp[hl]
 simp[h]
theorem Sim.frz (h:Sim B W0 I0 I val fs σ a w){k:Nat}{r:PV}(hc:close1 σ (getL σ.sl k)=some (r,σ')):SimE B W0 I0 {σ' with sl:=setL σ'.sl k (froze1 r)} a w:=by
 obtain⟨F,hS,hR,hF,hsub⟩:=close1_rel h (h.slots.get k undef) hc
 have h2:=hS.addI (I':=fun x=>I x∨F x) (fun x hx=>.inl hx) (fun x hx=>by
  rcases hx with hx | hx
  ·exact h.lt x hx
  ·obtain⟨d,b,hb,_,hf⟩:=hF x hx;exact(h.new d b hb x hf).2) (fun x hx=>by
  rcases hx with hx | hx
  ·exact h.old x hx
  ·obtain⟨d,b,hb,_,hf⟩:=hF x hx;exact .inr (h.new d b hb x hf).1) (fun e b he x hx hi=>by
  rcases hi with hi | hi
  ·exact hS.imm e b he x hx hi
  obtain⟨d,c,hb,hn,hf⟩:=hF x hi
  obtain⟨b',hb',_⟩:=hsub e b he
  have hne:e≠d:=fun hed=>by subst hed;rw[hn] at he;cases he
  exact h.disj e d _ _ hb' hb hne x hx hf)
 refine⟨_,_,_,{h2 with slots:= ?_}⟩
 have h3:=h2.slots.set k (froze1_rel (bl:=σ'.bl) (val:=val) (J:=I) (F:=F) (fun x hx=>.inl hx) (fun x hx=>.inr hx) hR)
 rwa [set_getD] at h3
theorem Sim.slotC (h:Sim B W0 I0 I val fs σ a w){k j d:Nat}{cs:List PV}(hk:getL σ.sl k=.agg cs)(hz:getL cs j=.zc)(hd:blk σ.bl d=none)(sz:Nat):
  SimE B W0 I0 {σ with sl:=setL σ.sl k (.agg (setL cs j (.own d))),bl:=(d,⟨.arr,sz,[]⟩)::σ.bl} a w:=by
 have h1:=h.nilBlk hd sz
 refine⟨I,_,_,{h1 with slots:=h1.slots.setNew k fun v hv=> ?_}⟩
 have hv':RelS w I (upd val d (.slice none 0 0)) ((d,⟨.arr,sz,[]⟩)::σ.bl) (getL σ.sl k) v:=hv
 rw[hk] at hv'
 cases hv' with
 | leaf c v hl h=>cases hl
 | agg cs vs hsl=>
  refine .agg _ _ (hsl.setNew j fun u hu=> ?_)
  rw[hz] at hu
  exact nil_own (by rw[blk_cons,if_pos rfl]) (upd_same _ _ _) hu
theorem RelL.fix {sz:Nat}:∀{l:List PV} {vs:List Value} {F:Ft},RelL w I l vs F→RelL w I (l.map (fixC sz)) vs F
 | _,_,_,.nil F=>.nil F
 | _,_,_,.cons c l v vs F G H h t hF hG d=>by
  have hv:RelV w I (fixC sz c) v F:=by
   by_cases hc:c=.zc
   ·subst hc
    cases h
    exact .ow sz [] _ 0 [] _ none' (fun r hr=>by cases hr) (OwnsW.nil w 0 0 sz) (.nil _) (fun _ hh=>hh.elim) (fun b hb=>by cases hb)
   have:fixC sz c=c:=by cases c<;>first | rfl | exact absurd rfl hc
   rw[this];exact h
  exact .cons _ _ _ _ F G H hv (RelL.fix t) hF hG d
theorem fixR_flat (sz:Nat)(rows:List (List PV)):(fixR sz rows).flatten=rows.flatten.map (fixC sz):=by
 unfold fixR;induction rows with
 | nil=>rfl
 | cons r l ih=>simp only[List.map_cons,List.flatten_cons,List.map_append,ih]
theorem Sim.zrow (h:Sim B W0 I0 I val fs σ a w){d s sz:Nat}{rows:List (List PV)}(hd:blk σ.bl d=some ⟨.arr,s,rows⟩):Sim B W0 I0 I val fs {σ with bl:=setB σ.bl d ⟨.arr,s,fixR sz rows⟩} a w:=by
 have hE:Ext σ.bl (setB σ.bl d ⟨.arr,s,fixR sz rows⟩) val val:=by
  intro e b he
  refine⟨?_,rfl⟩
  by_cases h0:d=e
  ·subst h0;rw[hd] at he;cases he;exact⟨⟨.arr,s,fixR sz rows⟩,by rw[blk_setB,if_pos rfl],rfl,rfl⟩
  exact⟨b,by rw[blk_setB,if_neg h0];exact he,rfl,rfl⟩
 have look:∀ e c,blk (setB σ.bl d ⟨.arr,s,fixR sz rows⟩) e=some c→∃ b,blk σ.bl e=some b:=by
  intro e c he
  rw[blk_setB] at he
  by_cases h0:d=e
  ·subst h0;exact⟨_,hd⟩
  rw[if_neg h0] at he;exact⟨c,he⟩
 refine{slots:=RelSL.frame (SameOn.refl _ _) (fun _ h=>h) hE h.slots,blocks:=fun e c he=> ?_,disj:=fun e e' c c' he he' hne=> ?_,imm:=fun e c he=> ?_,new:=fun e c he=> ?_,lt:=h.lt,old:=h.old,below:=h.below,size:=h.size,heads:=fun e v he=> ?_,defers:=h.defers}
 ·have he:blk (setB σ.bl d ⟨.arr,s,fixR sz rows⟩) e=some c:=he
  rw[blk_setB] at he
  by_cases h0:d=e
  ·subst h0
   rw[if_pos rfl] at he;cases he
   obtain⟨e0,xs,G,hu,how,hR,hG,hob⟩:=h.blocks d _ hd
   refine⟨e0,xs,G,fun r hr=> ?_,by rw[show(fixR sz rows).length=rows.length by simp[fixR]];exact how,by rw[fixR_flat];exact hR.fix,hG,hob⟩
   obtain⟨r0,hr0,rfl⟩:=List.mem_map.1 hr
   rw[List.length_map];exact hu r0 hr0
  rw[if_neg h0] at he
  exact(h.blocks e c he).frame (SameOn.refl _ _) (fun _ h=>h) hE (SameOn.refl _ _)
 ·obtain⟨b,hb⟩:=look e c he
  obtain⟨b',hb'⟩:=look e' c' he'
  exact h.disj _ _ _ _ hb hb' hne
 ·obtain⟨b,hb⟩:=look e c he;exact h.imm _ _ hb
 ·obtain⟨b,hb⟩:=look e c he;exact h.new _ _ hb
 obtain⟨h1,c,hc⟩:=h.heads e v he
 obtain⟨⟨b',hb',_⟩,_⟩:=hE e c hc
 exact⟨h1,b',hb'⟩
def renK (d e:Nat):Blk→Blk
 | ⟨.arr,sz,rows⟩=>⟨.arr,sz,rows⟩
 | ⟨k,sz,[r]⟩=>⟨k,sz,[renS d e r]⟩
 | ⟨k,sz,_⟩=>⟨k,sz,[]⟩
theorem renK_k (d e:Nat)(b:Blk):(renK d e b).k=b.k∧(renK d e b).sz=b.sz:=by
 obtain⟨k,sz,rows⟩:=b
 cases k<;>(unfold renK;split<;>simp_all)
theorem renB_cons (d e x:Nat)(b:Blk)(l:List (Nat × Blk)):renB d e ((x,b)::l)=(renN d e x,renK d e b)::renB d e l:=by
 obtain⟨k,sz,rows⟩:=b
 cases k with
 | arr=>rfl
 | var=>cases rows with | nil=>rfl | cons r t=>cases t<;>rfl
 | lit=>cases rows with | nil=>rfl | cons r t=>cases t<;>rfl
theorem renN_eq (d e x:Nat):renN d e x=if x=d then e else x:=by
 unfold renN nq
 by_cases h:x=d
 ·subst h;simp
 rw[if_neg h,show(x == d)=false from by simpa using h];rfl
theorem blk_renB {d e:Nat}(x:Nat):∀{l:List (Nat × Blk)},blk l e=none→blk (renB d e l) x=if x=e then (blk l d).map (renK d e) else if x=d then none else (blk l x).map (renK d e)
 | [],_=>by
  unfold renB blk
  split
  ·rfl
  split<;>rfl
 | (y,b)::l,he=>by
  rw[blk_cons] at he
  by_cases hye:y=e
  ·rw [if_pos hye] at he;cases he
  rw[if_neg hye] at he
  have ih:=blk_renB (d:=d) x he
  rw[renB_cons,blk_cons,ih,blk_cons,blk_cons,renN_eq]
  by_cases hyd:y=d
  ·subst hyd
   simp only[if_true]
   by_cases hxe:x=e
   ·subst hxe;simp
   rw[if_neg (Ne.symm hxe),if_neg hxe,if_neg hxe]
   by_cases hxd:x=y
   ·subst hxd;simp
   rw[if_neg hxd,if_neg hxd,if_neg (Ne.symm hxd)]
  rw[if_neg hyd]
  by_cases hxe:x=e
  ·subst hxe;rw[if_neg hye,if_pos rfl,if_pos rfl,if_neg hyd]
  rw[if_neg hxe,if_neg hxe]
  by_cases hxd:x=d
  ·subst hxd;rw[if_neg hyd,if_pos rfl,if_pos rfl]
  rw[if_neg hxd,if_neg hxd]
  by_cases hyx:y=x
  ·subst hyx;rw[if_pos rfl,if_pos rfl];rfl
  rw[if_neg hyx,if_neg hyx]
def Rnd (d e:Nat)(bl bl':List (Nat × Blk))(val val':Nat→Value):Prop:=
 ∀ x b,blk bl x=some b→(∃ b',blk bl' (renN d e x)=some b'∧b'.k=b.k∧b'.sz=b.sz)∧val' (renN d e x)=val x
mutual
theorem RelS.ren {d e:Nat}{bl bl':List (Nat × Blk)}{val':Nat→Value}(hE:Rnd d e bl bl' val val'):∀{c:PV} {v:Value},RelS w I val bl c v→RelS w I val' bl' (renV d e c) v
 | _,_,.leaf c v hl h=>by
  have:renV d e c=c:=by cases c<;>first | rfl | cases hl
  rw[this];exact .leaf c v hl h
 | _,_,.own x b hb hk=>by
  obtain⟨⟨b',hb',hk',_⟩,hv⟩:=hE x b hb
  rw[← hv]
  exact .own _ b' hb' (by rw[hk'];exact hk)
 | _,_,.pt x i j b g hb hg=>by
  obtain⟨⟨b',hb',_,hs⟩,hv⟩:=hE x b hb
  rw[← hs]
  exact .pt _ i j b' g hb' (by rw[hv];exact hg)
 | _,_,.rd cs a vs hb hs hc hr=>.rd cs a vs hb hs hc hr
 | _,_,.agg cs vs h=>.agg _ vs (RelSL.ren hE h)
 | _,_,.tup cs vs h=>.tup _ vs (RelSL.ren hE h)
 | _,_,.fn f cs vs h=>.fn f _ vs (RelSL.ren hE h)
 | _,_,.bad v=>.bad v
theorem RelSL.ren {d e:Nat}{bl bl':List (Nat × Blk)}{val':Nat→Value}(hE:Rnd d e bl bl' val val'):∀{l:List PV} {vs:List Value},RelSL w I val bl l vs→RelSL w I val' bl' (renS d e l) vs
 | _,_,.nil=>.nil
 | _,_,.cons c l v vs h t=>.cons _ _ v vs (RelS.ren hE h) (RelSL.ren hE t)
end
theorem renS_length (d e:Nat):∀ l:List PV,(renS d e l).length=l.length
 | []=>rfl
 | _::l=>by simp[renS,renS_length d e l]
theorem BlkR.ren {d e:Nat}{bl bl':List (Nat × Blk)}{val':Nat→Value}(hE:Rnd d e bl bl' val val'){b:Blk}{v:Value}{F:Ft}(h:BlkR w I val bl b v F):BlkR w I val' bl' (renK d e b) v F:=by
 have key:∀{sz0:Nat} {r:List PV} {g:Nat},CellsR w I val bl sz0 r g F→CellsR w I val' bl' sz0 (renS d e r) g F:=by
  rintro sz0 r g ⟨T,c,h1,h2,h3,h4,h5⟩;exact⟨T,c,h1,h2,h3.ren hE,by rw[renS_length];exact h4,h5⟩
 obtain⟨k,s,rs⟩:=b
 cases k with
 | arr=>exact h
 | var=>match rs,h with | [r],⟨g,h1,h2⟩=>exact⟨g,h1,key h2⟩
 | lit=>match rs,h with | [r],⟨g,h1,h0,h2⟩=>exact⟨g,h1,h0,key h2⟩
theorem Sim.ren (h:Sim B W0 I0 I val fs σ a w){d e:Nat}{b0:Blk}(hd:blk σ.bl d=some b0)(he:blk σ.bl e=none)(hh:lookV σ.hd d=none):
    SimE B W0 I0 {σ with sl:=renS d e σ.sl,bl:=renB d e σ.bl} a w:=by
  have hne:d≠e:=fun hde=>by subst hde;rw[hd] at he;cases he
  have hE:Rnd d e σ.bl (renB d e σ.bl) val (upd val e (val d)):=by
    intro x b hx
    rw[renN_eq,blk_renB _ he]
    by_cases hxd:x=d
    · subst hxd
      rw[if_pos rfl,if_pos rfl,hx]
      exact⟨⟨_,rfl,renK_k _ _ _⟩,by simp[upd]⟩
    · rw[if_neg hxd]
      have hxe:x≠e:=fun hxe=>by subst hxe;rw[hx] at he;cases he
      rw[if_neg hxe,if_neg hxd,hx]
      exact⟨⟨_,rfl,renK_k _ _ _⟩,by simp[upd,hxe]⟩
  -- where a block comes from
  have look:∀ x c,blk (renB d e σ.bl) x=some c→∃ y b,blk σ.bl y=some b∧c=renK d e b∧x=renN d e y∧x≠d:=by
    intro x c hx
    rw[blk_renB _ he] at hx
    by_cases hxe:x=e
    · rw[if_pos hxe,hd] at hx;cases hx
      exact⟨d,b0,hd,rfl,by rw[renN_eq,if_pos rfl];exact hxe,fun hxd=>hne (hxd.symm.trans hxe)⟩
    · rw[if_neg hxe] at hx
      by_cases hxd:x=d
      · rw[if_pos hxd] at hx;cases hx
      · rw[if_neg hxd] at hx
        cases hb:blk σ.bl x with
        | none=>rw[hb] at hx;cases hx
        | some b=>rw[hb] at hx;cases hx;exact⟨x,b,hb,rfl,by rw[renN_eq,if_neg hxd],hxd⟩
  have hfs:∀ y b,blk σ.bl y=some b→upd fs e (fs d) (renN d e y)=fs y:=by
    intro y b hy
    rw[renN_eq]
    by_cases hyd:y=d
    · subst hyd;simp[upd]
    · have hye:y≠e:=fun hye=>by subst hye;rw[hy] at he;cases he
      simp[upd,hyd,hye]
  refine⟨I,upd val e (val d),upd fs e (fs d),{slots:=h.slots.ren hE,blocks:=fun x c hx=> ?_,disj:=fun x x' c c' hx hx' hxx=> ?_,imm:=fun x c hx=> ?_,new:=fun x c hx=> ?_,lt:=h.lt,old:=h.old,below:=h.below,size:=h.size,heads:=fun x v hx=> ?_,defers:=h.defers}⟩
  · obtain⟨y,b,hy,rfl,rfl,_⟩:=look x c hx
    rw[hfs y b hy,(hE y b hy).2]
    exact(h.blocks y b hy).ren hE
  · obtain⟨y,b,hy,rfl,rfl,_⟩:=look x c hx
    obtain⟨y',b',hy',rfl,rfl,_⟩:=look x' c' hx'
    rw[hfs y b hy,hfs y' b' hy']
    exact h.disj y y' b b' hy hy' fun hyy=>hxx (by rw[hyy])
  · obtain⟨y,b,hy,rfl,rfl,_⟩:=look x c hx
    rw[hfs y b hy];exact h.imm y b hy
  · obtain⟨y,b,hy,rfl,rfl,_⟩:=look x c hx
    rw[hfs y b hy];exact h.new y b hy
  · obtain⟨h1,c,hc⟩:=h.heads x v hx
    have hxd:x≠d:=fun hxd=>by subst hxd;rw[hh] at hx;cases hx
    have hxe:x≠e:=fun hxe=>by subst hxe;rw[hc] at he;cases he
    refine⟨by simp[upd,hxe,h1],renK d e c,?_⟩
    show blk (renB d e σ.bl) x=_
    rw[blk_renB _ he,if_neg hxe,if_neg hxd,hc];rfl
theorem tweak1_sound (h:SimE B W0 I0 σ a w){t:Tw}(ht:tweak1 σ t=some σ'):SimE B W0 I0 σ' a w:=by
 obtain⟨I,val,fs,h⟩:=h
 cases t with
 | back D d i j=>
  simp only[tweak1] at ht
  split at ht
  ·rename_i s nrows v sz rows hD hv hd
   split at ht
   ·rename_i r hr
    split at ht
    ·rename_i hc
     simp only[Option.some.injEq] at ht;subst ht
     obtain⟨fs',hS⟩:=h.giveBack hD hv hd hr hc.1 hc.2
     exact⟨_,_,_,hS⟩
    cases ht
   cases ht
  cases ht
 | freeze d=>
  simp only[tweak1] at ht
  split at ht
  ·rename_i sz rows hd
   simp only[Option.some.injEq] at ht;subst ht
   exact h.freeze hd
  cases ht
 | slot k d sz=>
  simp only[tweak1] at ht
  split at ht
  ·rename_i hz hd
   simp only[Option.some.injEq] at ht;subst ht
   exact h.slotNil hz hd sz
  cases ht
 | cell b j d sz=>
  simp only[tweak1] at ht
  split at ht
  ·rename_i n r hb hd
   split at ht
   ·rename_i hz
    simp only[Option.some.injEq] at ht;subst ht
    exact h.cellNil hb hz hd sz
   cases ht
  cases ht
 | up d=>
  simp only[tweak1] at ht
  split at ht
  ·rename_i b hb
   simp only[Option.some.injEq] at ht;subst ht
   exact⟨_,_,_,h.reorder (blk_up hb)⟩
  cases ht
 | arr d=>
  simp only[tweak1] at ht
  split at ht
  ·rename_i sz r hb
   split at ht
   ·rename_i hl
    simp only[Option.some.injEq] at ht;subst ht
    exact⟨_,_,_,h.litArr hb hl⟩
   cases ht
  cases ht
 | drop d=>
  simp only[tweak1,Option.some.injEq] at ht
  subst ht
  exact⟨_,_,_,h.drop d⟩
 | ren d e=>
  simp only[tweak1] at ht
  split at ht
  ·rename_i b0 hd he hh
   simp only[Option.some.injEq] at ht;subst ht
   exact h.ren hd he hh
  cases ht
 | zrow d sz=>
  simp only[tweak1] at ht
  split at ht
  ·rename_i s rows hd
   simp only[Option.some.injEq] at ht;subst ht
   exact⟨_,_,_,h.zrow hd⟩
  cases ht
 | frz k=>
  simp only[tweak1] at ht
  split at ht
  ·rename_i r σ1 hc
   simp only[Option.some.injEq] at ht;subst ht
   exact h.frz hc
  cases ht
 | slotC k j d sz=>
  simp only[tweak1] at ht
  split at ht
  ·rename_i cs hk hd
   split at ht
   ·rename_i hz
    simp only[Option.some.injEq] at ht;subst ht
    exact h.slotC hk hz hd sz
   cases ht
  cases ht
theorem tweak_sound :∀(tw:List Tw) {σ:St},SimE B W0 I0 σ a w→tweak σ tw=some σ'→SimE B W0 I0 σ' a w
 | [],σ,h,ht=>by simp only[tweak,Option.some.injEq] at ht;subst ht;exact h
 | t::l,σ,h,ht=>by
  simp only[tweak] at ht
  split at ht
  ·rename_i σ1 h1;exact tweak_sound l (tweak1_sound h h1) ht
  cases ht
end
section
variable {P : Program} {T : Tys} {X : Spec} {B : Ft} {W0 : World} {I0 : Ft} {I : Ft} {val : Nat → Value} {fs : Nat → Ft} {σ σ' : St} {a : Act} {w w' : World} {o : Oper}
theorem aop_sound (hT:TyOk P T)(hX:AllReal P X B W0)(h:Sim B W0 I0 I val fs σ a w){K:St→Prop}{next:Act→World→Prop}{Q:Exit→Act→World→Prop}
  (hk:∀ σ' a' w',SimE B W0 I0 σ' a' w'→K σ'→next a' w') (ha:aop T X o K σ):o.wp P a w next Q:=by
 rcases ha with ha | ha | ha | ha | ha | ⟨tw,ha⟩ | ⟨σ1,ha,hK⟩
 ·exact aop5_sound hT hX h hk (.inl ha)
 ·exact aop5_sound hT hX h hk (.inr (.inl ha))
 ·exact aop5_sound hT hX h hk (.inr (.inr (.inl ha)))
 ·exact aop5_sound hT hX h hk (.inr (.inr (.inr (.inl ha))))
 ·exact aop5_sound hT hX h hk (.inr (.inr (.inr (.inr ha))))
 ·exact aop0_sound hT hX h (fun σ1 a1 w1 h1 ⟨σ2,ht,hK⟩=>hk σ2 a1 w1 (tweak_sound tw h1 ht) hK) ha
 exact(stepE_sound hT h ha).wp fun a' w' hS=>hk _ _ _ hS hK
end
def gop (all:List Oper)(o:Oper)(F:St→Prop)(K:St→Prop)(σ:St):Prop:=
  match o.guard with
  | none=>F σ
  | some (j,want)=>match dstOf all j with
    | some t=>match getL σ.sl t with
      | .bool b=>(b=want→F σ)∧(b=(!want)→K (σ.put o.dst (.tup [])))
      | .tup []=>K (σ.put o.dst (.tup []))
      | _=>False
    | none=>False
section
variable {P : Program} {T : Tys} {X : Spec} {B : Ft} {W0 : World} {I0 : Ft} {σ σ' : St} {a : Act} {w w' : World} {o : Oper} {ops : Array Oper} {Q : Exit → Act → World → Prop}
theorem undef_rel {I:Ft}{val:Nat→Value}{bl:List (Nat × Blk)}:RelS w I val bl (.tup []) undef:=.tup [] [] .nil
theorem yielded_undef {I:Ft}{val:Nat→Value}{fs:Nat→Ft}(h:Sim B W0 I0 I val fs σ a w){j:Nat}{t:Tmp}(hd:dstOf ops.toList j=some t)(hb:getL σ.sl t=.tup []):yielded ops a.tmps j=none:=by
 have h1:=dstOf_spec _ _ _ hd
 rw[Array.getElem?_toList] at h1
 unfold yielded
 rw[h1]
 have h2:=h.slots.get t undef
 rw[hb] at h2
 have h3:a.tmps.toList.getD t undef=undef:=by
  generalize a.tmps.toList.getD t undef=v at h2
  cases h2 with
  | leaf c v hl h=>cases hl
  | tup cs vs h=>cases h;rfl
 simp only[List.getD_eq_getElem?_getD,Array.getElem?_toList] at h3
 cases hq:a.tmps[t]? with
 | none=>simp[hq]
 | some v=>
  rw[hq] at h3
  simp only[Option.getD_some] at h3
  subst h3
  simp[hq,undef]
theorem wpOp_sound (hT:TyOk P T)(hX:AllReal P X B W0){i:Nat}(ho:ops[i]? =some o)(h:SimE B W0 I0 σ a w){K:St→Prop}{next:Act→World→Prop}
  (hk:∀ σ' a' w',SimE B W0 I0 σ' a' w'→K σ'→next a' w') (hg:gop ops.toList o (aop T X o K) K σ):wpOp P ops Q i next a w:=by
 obtain⟨I,val,fs,h⟩:=h
 unfold wpOp
 simp only[ho]
 unfold gop at hg
 split at hg
 ·rename_i hgd
  have hw:Region.wanted o (yielded ops a.tmps)=true:=by simp[Region.wanted,hgd]
  rw[if_pos hw]
  exact .inl (aop_sound hT hX h hk hg)
 rename_i j want hgd
 split at hg
 case h_2=>exact hg.elim
 rename_i t ht
 split at hg
 case h_3=>exact hg.elim
 case h_2 hb=>
  have hy:=yielded_undef h ht hb
  have hw:Region.wanted o (yielded ops a.tmps)=false:=by simp[Region.wanted,hgd,hy]
  rw[hw,if_neg (by simp)]
  exact hk _ _ _ ⟨I,val,fs,h.put o.dst undef_rel⟩ hg
 rename_i b hb
 have hy:=yielded_slot h ht hb
 have hw:Region.wanted o (yielded ops a.tmps)=(b == want):=by simp[Region.wanted,hgd,hy]
 rw[hw]
 by_cases hbw:b=want
 ·rw [if_pos (by simp[hbw])]
  exact .inl (aop_sound hT hX h hk (hg.1 hbw))
 rw[if_neg (by simp[hbw])]
 exact hk _ _ _ ⟨I,val,fs,h.put o.dst undef_rel⟩ (hg.2 (by cases b<;>cases want<;>simp_all))
theorem aops_cons (all:List Oper)(o:Oper)(rest:List Oper)(K:St→Prop)(σ:St):aops T X all (o::rest) K σ=gop all o (aop T X o (aops T X all rest K)) (aops T X all rest K) σ:=rfl
theorem aops_sound (hT:TyOk P T)(hX:AllReal P X B W0){K:St→Prop}(hk:∀ σ' a' w',SimE B W0 I0 σ' a' w'→K σ'→Q .normal a' w'):∀(l:List Oper) (k:Nat),ops.toList.drop k=l→
  ∀(σ:St) (a:Act) (w:World),SimE B W0 I0 σ a w→aops T X ops.toList l K σ→wpOps P ops Q (List.range' k l.length) a w
 | [],k,hl,σ,a,w,h,ha=>hk σ a w h ha
 | o::l,k,hl,σ,a,w,h,ha=>by
  have ho:ops[k]? =some o:=by
   have:(ops.toList.drop k)[0]? =some o:=by rw[hl];rfl
   simpa using this
  have hl':ops.toList.drop (k+1)=l:=by
   have:(ops.toList.drop k).drop 1=l:=by rw[hl];rfl
   rw[List.drop_drop] at this
   exact this
  rw[List.length_cons,List.range'_succ,wpOps_cons]
  rw[aops_cons] at ha
  exact wpOp_sound hT hX ho h (fun σ' a' w' h'=>aops_sound hT hX hk l (k+1) hl' σ' a' w' h') ha
theorem region_sound (hT:TyOk P T)(hX:AllReal P X B W0){id:Nat}{K:St→Prop}(hk:∀ σ' a' w',SimE B W0 I0 σ' a' w'→K σ'→Q .normal a' w')(h:SimE B W0 I0 σ a w)
  (ha:aops T X ops.toList ops.toList K σ):(Code.region id ops false).wp P Q a w:=by
 apply wp_region
 have:=aops_sound (ops:=ops) hT hX hk ops.toList 0 rfl σ a w h ha
 rw[List.range_eq_range']
 simpa using this
variable {I : Ft} {val : Nat → Value} {fs : Nat → Ft}
theorem RelSL.keepL {bl:List (Nat × Blk)}:∀{l:List PV} {vs:List Value},RelSL w I val bl l vs→∀(k:Nat) (ts:List Nat),RelSL w I val bl (Av.keepL k ts l) vs
 | _,_,.nil,_,_=>.nil
 | _,_,.cons c l v vs h t,k,[]=>.cons _ _ _ _ (.bad _) (t.keepL 0 [])
 | _,_,.cons c l v vs h t,k,e::ts=>by
  simp only[Av.keepL]
  cases nq k e with
  | true=>exact .cons _ _ _ _ h (t.keepL _ _)
  | false=>exact .cons _ _ _ _ (.bad _) (t.keepL _ _)
theorem dropAll_sound (ds:List Nat):∀(l:List (Nat × Blk)) {σ:St},Sim B W0 I0 I val fs σ a w→Sim B W0 I0 I val fs (dropAll ds l σ) a w
 | [],σ,h=>h
 | (e,b)::l,σ,h=>by
  simp only[dropAll]
  cases memN e ds with
  | true=>exact dropAll_sound ds l h
  | false=>exact dropAll_sound ds l (h.drop e)
theorem keep_sound (h:SimE B W0 I0 σ a w)(ks ds:List Nat):SimE B W0 I0 (σ.keep ks ds) a w:=by
 obtain⟨I,val,fs,h⟩:=h
 exact⟨I,val,fs,dropAll_sound ds _ {h with slots:=h.slots.keepL 0 ks}⟩
end
end Go.Av

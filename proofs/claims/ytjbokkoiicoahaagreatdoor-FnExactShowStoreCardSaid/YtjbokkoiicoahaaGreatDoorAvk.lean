/- Each operation of the abstract walk is what Go does: blocks that go, blocks that are written, append. -/
import Derived.Test.YtjbokkoiicoahaaGreatDoorAvb
namespace Go.Av
open Go Go.RowKit
set_option linter.unusedVariables false
set_option linter.unusedSimpArgs false
theorem beq_false {d e:Nat}(h:¬ d=e):nq d e=false:=by
 cases hb:nq d e with
 | false=>rfl
 | true=>exact absurd (nq_eq hb) h
theorem beq_true (d:Nat):nq d d=true:=by simp
theorem lookV_cons (d:Nat)(v:Value)(l:List (Nat × Value))(e:Nat):lookV ((d,v)::l) e=if d=e then some v else lookV l e:=by
 show(bif nq d e then some v else lookV l e)=_
 by_cases h:d=e
 ·subst h;rw[beq_true];simp
 rw[if_neg h,beq_false h];rfl
theorem lookV_del {d e:Nat}{v:Value}:∀{l:List (Nat × Value)},lookV (delV l d) e=some v→e≠d∧lookV l e=some v
 | [],h=>by cases h
 | (k,u)::l,h=>by
  rw[lookV_cons]
  by_cases hk:k=d
  ·have h':lookV (delV l d) e=some v:=by
    have:delV ((k,u)::l) d=delV l d:=by
     show(bif nq k d then delV l d else (k,u)::delV l d)=_
     rw[hk,beq_true];rfl
    rwa [this] at h
   obtain⟨h1,h2⟩:=lookV_del h'
   exact⟨h1,by rw[if_neg (by rw[hk];exact Ne.symm h1)];exact h2⟩
  have h':lookV ((k,u)::delV l d) e=some v:=by
   have:delV ((k,u)::l) d=(k,u)::delV l d:=by
    show(bif nq k d then delV l d else (k,u)::delV l d)=_
    rw[beq_false hk];rfl
   rwa [this] at h
  rw[lookV_cons] at h'
  by_cases h0:k=e
  ·rw [if_pos h0] at h' ⊢;exact⟨by rw[← h0];exact hk,h'⟩
  rw[if_neg h0] at h' ⊢;exact lookV_del h'
theorem blk_delB (d e:Nat):∀(l:List (Nat × Blk)),blk (delB l d) e=if d=e then none else blk l e
 | []=>by simp[delB,blk]
 | (f,c)::l=>by
  simp only[delB]
  by_cases hf:f=d
  ·subst hf
   rw[beq_true,cond_true,blk_delB f e l,blk_cons]
   by_cases h:f=e
   ·simp [h]
   simp[h]
  rw[beq_false hf,cond_false,blk_cons,blk_cons,blk_delB d e l]
  by_cases h:f=e
  ·subst h;rw[if_pos rfl,if_neg (Ne.symm hf),if_pos rfl]
  rw[if_neg h,if_neg h]
def killK (d:Nat):Blk→Blk
 | ⟨.arr,sz,rows⟩=>⟨.arr,sz,rows⟩
 | ⟨k,sz,[r]⟩=>⟨k,sz,[killS d r]⟩
 | ⟨k,sz,_⟩=>⟨k,sz,[]⟩
theorem killK_k (d:Nat)(b:Blk):(killK d b).k=b.k∧(killK d b).sz=b.sz:=by
 obtain⟨k,sz,rows⟩:=b
 cases k<;>first | exact⟨rfl,rfl⟩ | (match rows with | []=>exact⟨rfl,rfl⟩ | [r]=>exact⟨rfl,rfl⟩ | _::_::_=>exact⟨rfl,rfl⟩)
theorem blk_killB (d e:Nat):∀(l:List (Nat × Blk)),blk (killB d l) e=(blk l e).map (killK d)
 | []=>rfl
 | (f,c)::l=>by
  have hc:killB d ((f,c)::l)=(f,killK d c)::killB d l:=by
   obtain⟨k,sz,rows⟩:=c
   cases k<;>first | rfl | (match rows with | []=>rfl | [r]=>rfl | _::_::_=>rfl)
  rw[hc,blk_cons,blk_cons,blk_killB d e l]
  by_cases h:f=e<;>simp[h]
theorem blk_setB (d:Nat)(b:Blk)(e:Nat):∀(l:List (Nat × Blk)),blk (setB l d b) e=if d=e then some b else blk l e
 | []=>by simp[setB,blk_cons,blk]
 | (f,c)::l=>by
  simp only[setB]
  by_cases hf:f=d
  ·subst hf
   rw[beq_true,cond_true,blk_cons,blk_cons]
   by_cases h:f=e<;>simp[h]
  rw[beq_false hf,cond_false,blk_cons,blk_cons,blk_setB d b e l]
  by_cases h:f=e
  ·subst h;rw[if_pos rfl,if_neg (Ne.symm hf),if_pos rfl]
  rw[if_neg h,if_neg h]
section
variable {P : Program} {T : Tys} {B : Ft} {W0 : World} {I0 : Ft} {I : Ft} {val : Nat → Value} {fs : Nat → Ft} {σ σ' : St} {a : Act} {w w' : World} {o : Oper}
def Less (d:Nat)(bl bl':List (Nat × Blk)):Prop:=∀ e b,e≠d→blk bl e=some b→∃ b',blk bl' e=some b'∧b'.sz=b.sz∧b'.k=b.k
mutual
theorem RelS.kill' {val':Nat→Value}{d:Nat}{bl bl':List (Nat × Blk)}(hE:Less d bl bl')(hv:∀ e,e≠d→val' e=val e):∀{c:PV} {v:Value},RelS w I val bl c v→RelS w I val' bl' (Av.kill d c) v
 | _,_,.leaf c v hl h=>by
  have:Av.kill d c=c:=by cases c<;>first | rfl | simp[leafB] at hl
  rw[this];exact .leaf c v hl h
 | _,_,.own e b hb hk=>by
  by_cases h:e=d
  ·subst h;simp only[Av.kill,beq_true,cond_true];exact .bad _
  simp only[Av.kill,beq_false h,cond_false]
  obtain⟨b',hb',_,hk'⟩:=hE e b h hb
  rw[← hv e h]
  exact .own e b' hb' (by rw[hk'];exact hk)
 | _,_,.pt e i j b g hb hg=>by
  by_cases h:e=d
  ·subst h;simp only[Av.kill,beq_true,cond_true];exact .bad _
  simp only[Av.kill,beq_false h,cond_false]
  obtain⟨b',hb',hs,_⟩:=hE e b h hb
  rw[← hs]
  exact .pt e i j b' g hb' (by rw[hv e h];exact hg)
 | _,_,.rd cs a vs hI hs hc hr=>.rd cs a vs hI hs hc hr
 | _,_,.agg cs vs h=>.agg _ vs (RelSL.kill' hE hv h)
 | _,_,.tup cs vs h=>.tup _ vs (RelSL.kill' hE hv h)
 | _,_,.fn f cs vs h=>.fn f _ vs (RelSL.kill' hE hv h)
 | _,_,.bad v=>.bad v
theorem RelSL.kill' {val':Nat→Value}{d:Nat}{bl bl':List (Nat × Blk)}(hE:Less d bl bl')(hv:∀ e,e≠d→val' e=val e):∀{l:List PV} {vs:List Value},RelSL w I val bl l vs→RelSL w I val' bl' (killS d l) vs
 | _,_,.nil=>.nil
 | _,_,.cons c l v vs h t=>.cons _ _ v vs (RelS.kill' hE hv h) (RelSL.kill' hE hv t)
end
theorem RelS.kill {d:Nat}{bl bl':List (Nat × Blk)}(hE:Less d bl bl'){c:PV}{v:Value}(h:RelS w I val bl c v):RelS w I val bl' (Av.kill d c) v:=h.kill' hE fun _ _=>rfl
theorem RelSL.kill {d:Nat}{bl bl':List (Nat × Blk)}(hE:Less d bl bl'){l:List PV}{vs:List Value}(h:RelSL w I val bl l vs):RelSL w I val bl' (killS d l) vs:=h.kill' hE fun _ _=>rfl
theorem killS_length (d:Nat):∀ l:List PV,(killS d l).length=l.length
 | []=>rfl
 | _::l=>by simp[killS,killS_length d l]
theorem less_drop (d:Nat)(bl:List (Nat × Blk)):Less d bl (killB d (delB bl d)):=by
 intro e b hne hb
 refine⟨killK d b,?_,(killK_k d b).2,(killK_k d b).1⟩
 rw[blk_killB,blk_delB,if_neg (Ne.symm hne),hb]
 rfl
theorem BlkR.kill' {val':Nat→Value}{d:Nat}{bl bl':List (Nat × Blk)}(hE:Less d bl bl')(hv:∀ e,e≠d→val' e=val e){b:Blk}{v:Value}{F:Ft}(h:BlkR w I val bl b v F):BlkR w I val' bl' (killK d b) v F:=by
 obtain⟨k,sz,rows⟩:=b
 cases k with
 | arr=>exact h
 | var=>
  match rows,h with
  | [r],h=>
   obtain⟨g,hv',T,c,hg,hh,hs,hl,h1⟩:=h
   exact⟨g,hv',T,c,hg,hh,hs.kill' hE hv,by rw[killS_length];exact hl,h1⟩
 | lit=>
  match rows,h with
  | [r],h=>
   obtain⟨g,hv',h0,T,c,hg,hh,hs,hl,h1⟩:=h
   exact⟨g,hv',h0,T,c,hg,hh,hs.kill' hE hv,by rw[killS_length];exact hl,h1⟩
theorem BlkR.kill {d:Nat}{bl bl':List (Nat × Blk)}(hE:Less d bl bl'){b:Blk}{v:Value}{F:Ft}(h:BlkR w I val bl b v F):BlkR w I val bl' (killK d b) v F:=h.kill' hE fun _ _=>rfl
theorem Sim.drop (h:Sim B W0 I0 I val fs σ a w)(d:Nat):Sim B W0 I0 I val fs (σ.drop d) a w:=by
 have look:∀ e c,blk (killB d (delB σ.bl d)) e=some c→∃ b,e≠d∧blk σ.bl e=some b∧c=killK d b:=by
  intro e c he
  rw[blk_killB,blk_delB] at he
  by_cases h0:d=e
  ·rw [if_pos h0] at he;cases he
  rw[if_neg h0] at he
  cases hb:blk σ.bl e with
  | none=>rw[hb] at he;cases he
  | some b=>rw[hb] at he;exact⟨b,Ne.symm h0,rfl,by simpa using he.symm⟩
 refine{slots:=RelSL.kill (less_drop d σ.bl) h.slots,blocks:=fun e c he=> ?_,disj:=fun e e' c c' he he' hne=> ?_,imm:=fun e c he=> ?_,new:=fun e c he=> ?_,lt:=h.lt,old:=h.old,below:=h.below,size:=h.size,heads:=fun e v he=> ?_,defers:=h.defers}
 ·obtain⟨b,_,hb,rfl⟩:=look e c he
  exact(h.blocks e b hb).kill (less_drop d σ.bl)
 ·obtain⟨b,_,hb,_⟩:=look e c he
  obtain⟨b',_,hb',_⟩:=look e' c' he'
  exact h.disj _ _ _ _ hb hb' hne
 ·obtain⟨b,_,hb,_⟩:=look e c he;exact h.imm _ _ hb
 ·obtain⟨b,_,hb,_⟩:=look e c he;exact h.new _ _ hb
 obtain⟨hne,he⟩:=lookV_del he
 obtain⟨h1,c,hc⟩:=h.heads e v he
 exact⟨h1,_,by show blk (killB d (delB σ.bl d)) e=_;rw[blk_killB,blk_delB,if_neg (Ne.symm hne),hc];rfl⟩
def Sub (bl bl':List (Nat × Blk)):Prop:=∀ e b',blk bl' e=some b'→∃ b,blk bl e=some b∧b.sz=b'.sz∧b.k=b'.k
theorem Sub.refl (bl:List (Nat × Blk)):Sub bl bl:=fun e b h=>⟨b,h,rfl,rfl⟩
theorem Sub.trans {a b c:List (Nat × Blk)}(h:Sub a b)(h':Sub b c):Sub a c:=fun e x hx=>by
 obtain⟨y,hy,h1,h2⟩:=h' e x hx
 obtain⟨z,hz,h3,h4⟩:=h e y hy
 exact⟨z,hz,h3.trans h1,h4.trans h2⟩
theorem sub_drop (bl:List (Nat × Blk))(d:Nat):Sub bl (killB d (delB bl d)):=by
 intro e c he
 rw[blk_killB,blk_delB] at he
 by_cases h0:d=e
 ·rw [if_pos h0] at he;cases he
 rw[if_neg h0] at he
 cases hb:blk bl e with
 | none=>rw[hb] at he;cases he
 | some b=>rw[hb] at he;simp at he;subst he;exact⟨b,rfl,(killK_k d b).2.symm,(killK_k d b).1.symm⟩
def Gone (fs:Nat→Ft)(bl bl':List (Nat × Blk))(F:Ft):Prop:=∀ x,F x→∃ d b,blk bl d=some b∧blk bl' d=none∧fs d x
theorem absorb1_rel (h:Sim B W0 I0 I val fs σ a w){bl0:List (Nat × Blk)}{c c':PV}{v:Value}(hc:RelS w I val bl0 c v)(ha:absorb1 σ c=some (c',σ')):
  ∃ F,Sim B W0 I0 I val fs σ' a w∧RelV w I c' v F∧Gone fs σ.bl σ'.bl F∧Sub σ.bl σ'.bl:=by
 have leaf:∀ c',leafB c=true→c'=c→σ'=σ→∃ F,Sim B W0 I0 I val fs σ' a w∧RelV w I c' v F∧Gone fs σ.bl σ'.bl F∧Sub σ.bl σ'.bl:=by
  intro c' hl he hs
  subst he;subst hs
  cases hc with
  | leaf c v hl h'=>exact⟨none',h,h',fun _ h=>h.elim,Sub.refl _⟩
  | own d b hb hk=>simp[leafB] at hl
  | pt d i j b g hb hg=>simp[leafB] at hl
  | rd cs a vs hI hs hc hr=>simp[leafB] at hl
  | agg cs vs h=>simp[leafB] at hl
  | tup cs vs h=>simp[leafB] at hl
  | fn f cs vs h=>simp[leafB] at hl
  | bad v=>simp[leafB] at hl
 cases c with
 | own d=>
  simp only[absorb1] at ha
  split at ha
  ·rename_i sz rows hb
   simp only[Option.some.injEq,Prod.mk.injEq] at ha
   obtain⟨rfl,rfl⟩:=ha
   have hv:v=val d:=by cases hc with
    | leaf c v hl h=>cases hl
    | own d b hb hk=>rfl
   subst hv
   obtain⟨e,xs,G,hu,how,hR,hG,hob⟩:=h.blocks d _ hb
   refine⟨fs d,h.drop d,.ow sz rows _ e xs _ G hu how hR hG hob,fun x hx=>⟨d,_,hb,?_,hx⟩,sub_drop σ.bl d⟩
   show blk (killB d (delB σ.bl d)) d=none
   rw[blk_killB,blk_delB,if_pos rfl];rfl
  cases ha
 | ow sz rows=>
  cases hc with
  | leaf c v hl h=>cases hl
 | int k n=>simp[absorb1,leafB] at ha;exact leaf _ rfl ha.1.symm ha.2.symm
 | bool b=>simp[absorb1,leafB] at ha;exact leaf _ rfl ha.1.symm ha.2.symm
 | str b=>simp[absorb1,leafB] at ha;exact leaf _ rfl ha.1.symm ha.2.symm
 | zc=>simp[absorb1,leafB] at ha;exact leaf _ rfl ha.1.symm ha.2.symm
 | sl sz rows=>simp[absorb1,leafB] at ha;exact leaf _ rfl ha.1.symm ha.2.symm
 | pt d i j=>simp[absorb1,leafB] at ha
 | rd cs=>simp[absorb1,leafB] at ha
 | agg cs=>simp[absorb1,leafB] at ha
 | tup cs=>simp[absorb1,leafB] at ha
 | fn f cs=>simp[absorb1,leafB] at ha
 | bad=>simp[absorb1,leafB] at ha
 | raw v=>simp[absorb1,leafB] at ha
theorem absorbL_rel :∀{cs:List PV} {vs:List Value} {σ σ':St} {cs':List PV} {bl0:List (Nat × Blk)},Sim B W0 I0 I val fs σ a w→RelSL w I val bl0 cs vs→absorbL σ cs=some (cs',σ')→
  ∃ F,Sim B W0 I0 I val fs σ' a w∧RelL w I cs' vs F∧Gone fs σ.bl σ'.bl F∧Sub σ.bl σ'.bl∧cs'.length=cs.length
 | [],vs,σ,σ',cs',bl0,h,hr,ha=>by
  simp only[absorbL,Option.some.injEq,Prod.mk.injEq] at ha
  obtain⟨rfl,rfl⟩:=ha
  cases hr
  exact⟨none',h,.nil _,fun _ h=>h.elim,Sub.refl _,rfl⟩
 | c::cs,vs,σ,σ',cs',bl0,h,hr,ha=>by
  simp only[absorbL] at ha
  split at ha
  ·rename_i c1 σ1 h1
   split at ha
   ·rename_i l1 σ2 h2
    simp only[Option.some.injEq,Prod.mk.injEq] at ha
    obtain⟨rfl,rfl⟩:=ha
    cases hr with
    | cons c l v vs hc ht=>
     obtain⟨F1,hS1,hV,hg1,hsub1⟩:=absorb1_rel h hc h1
     obtain⟨F2,hS2,hL,hg2,hsub2,hlen⟩:=absorbL_rel hS1 ht h2
     have hd:∀ b,F1 b→¬ F2 b:=by
      intro b hb1 hb2
      obtain⟨d1,c1,hd1,hn1,hf1⟩:=hg1 b hb1
      obtain⟨d2,c2,hd2,hn2,hf2⟩:=hg2 b hb2
      obtain⟨c2',hd2',_⟩:=hsub1 d2 c2 hd2
      have hne:d1≠d2:=fun he=>by subst he;rw[hn1] at hd2;cases hd2
      exact h.disj _ _ _ _ hd1 hd2' hne b hf1 hf2
     refine⟨fun b=>F1 b∨F2 b,hS2,.cons _ _ _ _ F1 F2 _ hV hL (fun _ h=>.inl h) (fun _ h=>.inr h) hd,?_,hsub1.trans hsub2,by simp[hlen]⟩
     intro x hx
     rcases hx with hx | hx
     ·obtain⟨d1,c1,hd1,hn1,hf1⟩:=hg1 x hx
      refine⟨d1,c1,hd1,?_,hf1⟩
      cases hq:blk σ2.bl d1 with
      | none=>rfl
      | some q=>obtain⟨q',hq',_⟩:=hsub2 d1 q hq;rw[hn1] at hq';cases hq'
     obtain⟨d2,c2,hd2,hn2,hf2⟩:=hg2 x hx
     obtain⟨c2',hd2',_⟩:=hsub1 d2 c2 hd2
     exact⟨d2,c2',hd2',hn2,hf2⟩
   cases ha
  cases ha
theorem RelL.set :∀{l:List PV} {vs:List Value} {G:Ft},RelL w I l vs G→∀(k:Nat) {c:PV} {v:Value} {F:Ft},RelV w I c v F→(∀ b,F b→¬ G b)→RelL w I (setL l k c) (vs.set k v) (fun b=>G b∨F b)
 | _,_,_,.nil _,_,_,_,_,_,_=>.nil _
 | _,_,_,.cons c0 l v0 vs F0 G0 H h t hF hG d,0,c,v,F,hc,hd=>.cons _ _ _ _ F G0 _ hc t (fun _ h=>.inr h) (fun b h=>.inl (hG b h)) (fun b h1 h2=>hd b h1 (hG b h2))
 | _,_,_,.cons c0 l v0 vs F0 G0 H h t hF hG d,k+1,c,v,F,hc,hd=>
  .cons _ _ _ _ F0 (fun b=>G0 b∨F b) _ h (t.set k hc (fun b h1 h2=>hd b h1 (hG b h2))) (fun b h=>.inl (hF b h)) (fun b h=>h.elim (fun h=>.inl (hG b h)) .inr)
   (fun b h1 h2=>h2.elim (d b h1) (fun h3=>hd b h3 (hF b h1)))
theorem RelL.over :∀{cs:List PV} {us:List Value} {F:Ft},RelL w I cs us F→∀{l:List PV} {vs:List Value} {G:Ft} (j:Nat),RelL w I l vs G→(∀ b,F b→¬ G b)→RelL w I (overL l j cs) (overV vs j us) (fun b=>G b∨F b)
 | _,_,_,.nil _,_,_,_,_,h,_=>h.mono (fun _ h=>.inl h)
 | _,_,_,.cons c l0 v vs0 F0 G0 H hc t hF hG d,l,vs,G,j,h,hd=>
  ((RelL.over t (j+1) (h.set j hc (fun b h1 h2=>hd b (hF b h1) h2)) (fun b h1 h2=>h2.elim (hd b (hG b h1)) (fun h3=>d b h3 h1)))).mono
   (fun b h=>h.elim (fun h=>h.elim .inl (fun h=>.inr (hF b h))) (fun h=>.inr (hG b h)))
theorem overV_eq :∀(us l:List Value) (j:Nat),j+us.length≤l.length→overV l j us=l.take j++us++l.drop (j+us.length)
 | [],l,j,_=>by simp[overV]
 | u::us,l,j,h=>by
  simp only[List.length_cons] at h
  rw[overV,overV_eq us (l.set j u) (j+1) (by simp;omega)]
  apply List.ext_getElem?
  intro k
  have hjl:j < l.length:=by omega
  simp only[List.getElem?_append,List.length_take,List.length_set,List.length_append,List.length_cons,List.getElem?_take,List.getElem?_set,List.getElem?_drop]
  by_cases h1:k < j
  ·rw [if_pos (by omega),if_pos (by omega),if_pos (by omega),if_neg (by omega),if_pos (by omega),if_pos (by omega),if_pos (by omega)]
  by_cases h2:k=j
  ·subst h2
   rw[if_pos (by omega),if_pos (by omega),if_pos (by omega),if_pos rfl,if_pos (by omega),if_pos (by omega),if_neg (by omega)]
   simp[Nat.min_eq_left (Nat.le_of_lt hjl)]
  by_cases h3:k < j+1+us.length
  ·rw [if_pos (by omega),if_neg (by omega),if_pos (by omega),if_neg (by omega)]
   rw[show k - min j l.length=(k - min (j+1) l.length)+1 by omega]
   simp
  rw[if_neg (by omega),if_neg (by omega),if_neg (by omega)]
  congr 1
  omega
theorem flatten_set {sz:Nat}:∀(rows:List (List PV)),(∀ r∈rows,r.length=sz)→∀(a:Nat) (r:List PV),rows[a]? =some r→∀(k:Nat) (c:PV),k < r.length→(rows.set a (setL r k c)).flatten=setL rows.flatten (a * sz+k) c
 | [],_,a,r,h,_,_,_=>by simp at h
 | r0::rows,hu,0,r,h,k,c,hk=>by
  simp at h
  subst h
  simp only[List.set_cons_zero,List.flatten_cons,Nat.zero_mul,Nat.zero_add,setL_eq]
  rw[List.set_append_left _ _ hk]
 | r0::rows,hu,a+1,r,h,k,c,hk=>by
  have hl:r0.length=sz:=hu r0 (by simp)
  simp only[List.set_cons_succ,List.flatten_cons]
  rw[flatten_set rows (fun r hr=>hu r (by simp[hr])) a r (by simpa using h) k c hk]
  simp only[setL_eq]
  rw[List.set_append_right _ _ (by rw[hl,Nat.succ_mul];omega)]
  congr 2
  rw[hl,Nat.succ_mul]
  omega
theorem flatten_over {sz:Nat}:∀(cs:List PV) (rows:List (List PV)),(∀ r∈rows,r.length=sz)→∀(a:Nat) (r:List PV),rows[a]? =some r→∀(j:Nat),j+cs.length≤r.length→
  (rows.set a (overL r j cs)).flatten=overL rows.flatten (a * sz+j) cs
 | [],rows,hu,a,r,h,j,_=>by
  simp only[overL]
  congr 1
  apply List.ext_getElem?
  intro k
  rw[List.getElem?_set]
  split
  ·rename_i hk;subst hk;have:=(List.getElem?_eq_some_iff.1 h).1;rw[if_pos this,h]
  rfl
 | c::cs,rows,hu,a,r,h,j,hj=>by
  simp only[List.length_cons] at hj
  have ha:=(List.getElem?_eq_some_iff.1 h).1
  simp only[overL]
  have hr':(rows.set a (setL r j c))[a]? =some (setL r j c):=by rw[List.getElem?_set,if_pos rfl,if_pos ha]
  have hu':∀ r'∈rows.set a (setL r j c),r'.length=sz:=by
   intro r' hr2
   rcases List.mem_or_eq_of_mem_set hr2 with h1 | h1
   ·exact hu r' h1
   rw[h1,setL_length];exact hu r (List.mem_of_getElem? h)
  have:=flatten_over cs (rows.set a (setL r j c)) hu' a (setL r j c) hr' (j+1) (by rw[setL_length];omega)
  rw[List.set_set] at this
  rw[this,flatten_set rows hu a r h j c (by omega)]
  rw[show a * sz+(j+1)=a * sz+j+1 by omega]
theorem Sim.setBlk (h:Sim B W0 I0 I val fs σ a w){d:Nat}{b b':Blk}(hd:blk σ.bl d=some b)(hk:b'.k=b.k)(hz:b'.sz=b.sz)(hsame:∀ x,¬ fs d x→w'.heap[x]? =w.heap[x]?)(hb:Kept B w w'){F:Ft}
    (hB:BlkR w' I val (setB σ.bl d b') b' (val d) F) (hF:∀ x,F x→B x∧x < w'.heap.size) (hI:∀ x,F x→¬ I x) (hO:∀ x,F x→∀ e c,e≠d→blk σ.bl e=some c→¬ fs e x):
    Sim B W0 I0 I val (upd fs d F) {σ with bl:=setB σ.bl d b'} a w':=by
  have hE:Ext σ.bl (setB σ.bl d b') val val:=by
    intro e c he
    refine⟨?_,rfl⟩
    by_cases h0:d=e
    · subst h0
      rw[hd] at he
      cases he
      exact⟨b',by rw[blk_setB,if_pos rfl],hz,hk⟩
    · exact⟨c,by rw[blk_setB,if_neg h0];exact he,rfl,rfl⟩
  have hSI:SameOn I w w':=fun x hx=>hsame x (fun hf=>h.imm d b hd x hf hx)
  have look:∀ e c,blk (setB σ.bl d b') e=some c→(e=d∧c=b')∨(e≠d∧blk σ.bl e=some c):=by
    intro e c he
    rw[blk_setB] at he
    by_cases h0:d=e
    · rw[if_pos h0] at he;exact .inl ⟨h0.symm,by simpa using he.symm⟩
    · rw[if_neg h0] at he;exact .inr ⟨Ne.symm h0,he⟩
  refine{slots:=RelSL.frame hSI (fun _ h=>h) hE h.slots,blocks:=fun e c he=> ?_,disj:=fun e e' c c' he he' hne x hx hx'=> ?_,imm:=fun e c he x hx=> ?_,
           new:=fun e c he x hx=> ?_,lt:=fun x hx=>Nat.lt_of_lt_of_le (h.lt x hx) hb.size,old:=h.old,below:=h.below.trans hb,size:=fun x hx=>h.size x (Nat.le_trans hb.size hx),heads:=fun e v he=> ?_,defers:=h.defers}
  · rcases look e c he with ⟨rfl,rfl⟩ | ⟨hne,he⟩
    · rw[upd_same];exact hB
    · rw[upd_ne _ _ hne]
      exact(h.blocks e c he).frame hSI (fun _ h=>h) hE (fun x hx=>hsame x (fun hf=>h.disj _ _ _ _ he hd hne x hx hf))
  · rcases look e c he with ⟨rfl,rfl⟩ | ⟨hn1,h1⟩<;>rcases look e' c' he' with ⟨rfl,rfl⟩ | ⟨hn2,h2⟩
    · exact hne rfl
    · rw[upd_same] at hx;rw[upd_ne _ _ hn2] at hx';exact hO x hx _ _ hn2 h2 hx'
    · rw[upd_same] at hx';rw[upd_ne _ _ hn1] at hx;exact hO x hx' _ _ hn1 h1 hx
    · rw[upd_ne _ _ hn1] at hx;rw[upd_ne _ _ hn2] at hx';exact h.disj _ _ _ _ h1 h2 hne x hx hx'
  · rcases look e c he with ⟨rfl,rfl⟩ | ⟨hn1,h1⟩
    · rw[upd_same] at hx;exact hI x hx
    · rw[upd_ne _ _ hn1] at hx;exact h.imm _ _ h1 x hx
  · rcases look e c he with ⟨rfl,rfl⟩ | ⟨hn1,h1⟩
    · rw[upd_same] at hx;exact hF x hx
    · rw[upd_ne _ _ hn1] at hx;exact⟨(h.new _ _ h1 x hx).1,Nat.lt_of_lt_of_le (h.new _ _ h1 x hx).2 hb.size⟩
  · obtain⟨h1,c,hc⟩:=h.heads e v he
    exact⟨h1,by obtain⟨⟨c',hc',_⟩,_⟩:=hE e c hc;exact⟨c',hc'⟩⟩
theorem below_setRow (w:World){g:Nat}(hg:B g)(cs:Array Value):Kept B w (w.setRow g cs):=
 ⟨rfl,rfl,rfl,by simp,fun k hk=>setRow_other w g k cs (fun h=>hk (h ▸ hg))⟩
theorem run_storeVar' {t:TypeId}{inf:TypeInfo}(hi:P.info? t=some inf){v:Value}(hv:v.cells.size=inf.size){g o:Nat}{cur:Array Value}{e:TypeId}(hg:w.heap[g]? =some (.cells cur e (0,0)))
  (hfit:o+v.cells.size≤cur.size) (h1:∀ u∈v.cells.toList,u.oneCell'=true):
  (storeVar t ⟨g,o,none⟩ v).run P w=.ok () (w.setRow g (overV cur.toList o v.cells.toList).toArray):=by
 have hs:=run_storeCells_at P g o e v.cells.toList 0 cur w hg (by simpa using hfit) h1
 rw[overV_eq _ _ _ (by simpa using hfit)]
 simp only[Nat.add_zero] at hs
 simp[storeVar,sizeOf,typeInfo,hi,program,Sem.run,hv,hs]
theorem relL_ones :∀{l:List PV} {vs:List Value} {F:Ft},RelL w I l vs F→∀ v∈vs,v.oneCell'=true
 | _,_,_,.nil _,v,hv=>by simp at hv
 | _,_,_,.cons c l u vs F G H h t _ _ _,v,hv=>by
  rcases List.mem_cons.1 hv with rfl | hv
  ·cases h with
   | ow sz rows v e xs F G hu how hr hG hb=>rcases how.2 with ⟨h1,_⟩ | ⟨g,cap,cur,h1,_⟩<;>rw[h1]<;>rfl
   | bad v F h1=>exact h1
   | raw v F h1=>exact h1
   | _=>rfl
  exact relL_ones t v hv
theorem mem_over :∀(us l:List Value) (j:Nat) (u:Value),u∈overV l j us→(∀ x∈l,x.oneCell'=true)→(∀ x∈us,x.oneCell'=true)→u.oneCell'=true
 | [],l,j,u,h,hl,_=>hl u h
 | c::us,l,j,u,h,hl,hu=>mem_over us (l.set j c) (j+1) u h (fun x hx=>by
   rcases List.mem_or_eq_of_mem_set hx with h1 | h1
   ·exact hl x h1
   rw[h1];exact hu c (by simp)) (fun x hx=>hu x (by simp[hx]))
theorem cells_abs {c:PV}{v:Value}(hso:Ones val σ.bl)(h:RelS w I val σ.bl c v){r:List PV × St}(ha:absorbL σ (cellsOf c)=some r):RelSL w I val σ.bl (cellsOf c) v.cells.toList:=by
 cases h with
 | leaf c v hl h=>
  have hc:cellsOf c=[c]:=by cases c<;>first | rfl | simp[leafB] at hl
  rw[hc,(leaf_one hl h).1];exact .cons _ _ _ _ (.leaf c v hl h) .nil
 | own d b hb hk=>rw[(hso d b hb hk).1];exact .cons _ _ _ _ (.own d b hb hk) .nil
 | agg cs vs h=>simpa [cellsOf,Value.cells] using h
 | pt d i j b g hb hg=>simp[cellsOf,absorbL,absorb1,leafB] at ha
 | rd cs a0 vs hI hs hc hr=>simp[cellsOf,absorbL,absorb1,leafB] at ha
 | tup cs vs h=>simp[cellsOf,absorbL,absorb1,leafB] at ha
 | fn f cs vs h=>simp[cellsOf,absorbL,absorb1,leafB] at ha
 | bad v=>simp[cellsOf,absorbL,absorb1,leafB] at ha
theorem overV_take {us l:List Value}{o m:Nat}(h:o+us.length≤m)(hm:m≤l.length):(overV l o us).take m=overV (l.take m) o us:=by
 rw[overV_eq us l o (by omega),overV_eq us (l.take m) o (by simp;omega)]
 rw[List.take_append,List.take_append,List.take_take,List.drop_take]
 simp only[List.length_append,List.length_take,List.take_take]
 rw[show min o m=o by omega,show min m o=o by omega,show min o l.length=o by omega]
 rw[List.take_of_length_le (by omega:us.length≤m - o)]
theorem overV_length (us:List Value):∀(l:List Value) (o:Nat),(overV l o us).length=l.length:=by
 induction us with
 | nil=>intro l o;rfl
 | cons u us ih=>intro l o;simp[overV,ih]
theorem goes_store (hT:TyOk P T)(h:Sim B W0 I0 I val fs σ a w){t:TypeId}{x y:Operand}(ho:o.op=.store t x y)(hdst:o.dst=none)(hs:stStore T σ t (σ.get x) (σ.get y)=some σ'):Goes P B W0 I0 o a w σ':=by
 have ex:=h.eval x
 have ey:=h.eval y
 unfold stStore at hs
 split at hs
 ·rename_i i ht
  obtain⟨inf,z,hi,hsz,hby,hz,hzr,hzl,hza,hk⟩:=hT _ _ ht
  split at hs
  ·rename_i d a0 j hx
   rw[hx] at ex
   generalize hv:a.eval x=v at ex
   cases ex with
   | leaf c v hl h=>cases hl
   | pt d i' j' b g hb hg=>
    split at hs
    ·rename_i hlen
     have hlen:=nq_eq hlen
     split at hs
     ·rename_i sz r hbd
      rw[hb] at hbd
      cases hbd
      split at hs
      ·rename_i hc
       simp only[Bool.and_eq_true] at hc
       obtain⟨⟨hc1,hc2⟩,hc3⟩:=hc
       have hc2:=nq_eq hc2
       have hc3:=nle_le hc3
       subst hc2
       simp only[Option.some.injEq] at hs
       subst hs
       have hy:=cells_rel h.ones ey hc1
       have hyl:(a.eval y).cells.size=i.size:=by have:=hy.len;simp at this;omega
       obtain⟨g',hvd,T',c,hfg,hh,hsl,hrl,hones⟩:=h.blocks d _ hb
       rw[hvd] at hg
       simp[baseOf] at hg
       subst hg
       have hcl:c.size=r.length:=by have:=hsl.len;simpa using this
       have hrun:=run_storeVar' (P:=P) hi (v:=a.eval y) (by rw[hyl,hsz]) (o:=0 * sz+j) hh (by omega) (slots_one h.ones hy hc1)
       rw[Nat.zero_mul,Nat.zero_add] at hrun
       have hB:=(h.new d _ hb _ hfg).1
       have hbel:=below_setRow (B:=B) w hB (overV c.toList j (a.eval y).cells.toList).toArray
       have hSO:∀ x',x'≠g'→(w.setRow g' (overV c.toList j (a.eval y).cells.toList).toArray).heap[x']? =w.heap[x']? :=fun x' hx'=>setRow_other w g' x' _ hx'
       have hrel:RelSL (w.setRow g' (overV c.toList j (a.eval y).cells.toList).toArray) I val (setB σ.bl d ⟨.var,sz,[overL r j (cellsOf (σ.get y))]⟩) (overL r j (cellsOf (σ.get y))) (overV c.toList j (a.eval y).cells.toList):=by
        refine RelSL.frame (fun x' hx'=>hSO x' (fun he=>h.imm d _ hb _ (he ▸ hfg) hx')) (fun _ h=>h) ?_ (hy.over j hsl)
        intro e c' he
        refine⟨?_,rfl⟩
        by_cases h0:d=e
        ·subst h0;rw[hb] at he;cases he;exact⟨⟨.var,sz,[overL r j (cellsOf (σ.get y))]⟩,by rw[blk_setB,if_pos rfl],rfl,rfl⟩
        exact⟨c',by rw[blk_setB,if_neg h0];exact he,rfl,rfl⟩
       have hset:=h.setBlk hb (b':=⟨.var,sz,[overL r j (cellsOf (σ.get y))]⟩) rfl rfl (fun x' hx'=>hSO x' (fun he=>hx' (he ▸ hfg))) hbel (F:=fs d)
        ⟨g',hvd,T',_,hfg,setRow_heap w g' c _ T' (0,0) hh,by simpa using hrel,by rw[overL_length];exact hrl,fun u hu=>mem_over _ _ _ u (by simpa using hu) hones (slots_one h.ones hy hc1)⟩
        (fun x' hx'=>by have:=h.new d _ hb _ hx';simpa using this) (h.imm d _ hb) (fun x' hx' e c' hne he=>h.disj _ _ _ _ hb he (Ne.symm hne) x' hx')
       refine⟨undef,w.setRow g' (overV c.toList j (a.eval y).cells.toList).toArray,.inr ⟨by simp[execOp,ho,hv,Instr.storeAt,Instr.sureAddr,hrun],rfl⟩,?_⟩
       rw[hdst]
       exact⟨I,_,_,hset⟩
      cases hs
     ·rename_i sz0 rows0 hbd
      rw[hb] at hbd
      cases hbd
      split at hs
      ·rename_i cs σ1 habs
       split at hs
       ·rename_i sz rows hb1
        split at hs
        ·rename_i r hr
         split at hs
         ·rename_i hfit
          have hfit:=nle_le hfit
          simp only[Option.some.injEq] at hs
          subst hs
          have hcells:=cells_abs h.ones ey habs
          obtain⟨F,hS1,hRF,hgone,hsub,hclen⟩:=absorbL_rel h hcells habs
          obtain⟨b0,hb0,hsz0,hk0⟩:=hsub d _ hb1
          rw[hb] at hb0
          cases hb0
          have hsz0:sz0=sz:=hsz0
          subst hsz0
          obtain⟨e,xs,G,hu,how,hR,hG,hob⟩:=hS1.blocks d _ hb1
          have hrl:=hu r (List.mem_of_getElem? hr)
          have ha0:=(List.getElem?_eq_some_iff.1 hr).1
          rcases how.2 with ⟨hvd,hn⟩ | ⟨g',cap,cur,hvd,_,hh,hnc,hcm,hcs,htake⟩
          ·omega
          rw[hvd] at hg hob
          simp[baseOf] at hg
          subst hg
          have hgF:=hob g' rfl
          have hyl:(a.eval y).cells.size=i.size:=by have:=hcells.len;simp at this;omega
          have hacc:(a0+1) * sz0≤rows.length * sz0:=Nat.mul_le_mul_right _ ha0
          rw[Nat.succ_mul] at hacc
          have hcapm:rows.length * sz0≤cap * sz0:=Nat.mul_le_mul_right _ hnc
          have hrun:=run_storeVar' (P:=P) hi (v:=a.eval y) (by rw[hyl,hsz]) (o:=a0 * sz0+j) hh (by omega) (relL_ones hRF)
          have hB:=(hS1.new d _ hb1 _ hgF.1).1
          have hbel:=below_setRow (B:=B) w hB (overV cur.toList (a0 * sz0+j) (a.eval y).cells.toList).toArray
          have hSO:∀ x',x'≠g'→(w.setRow g' (overV cur.toList (a0 * sz0+j) (a.eval y).cells.toList).toArray).heap[x']? =w.heap[x']? :=fun x' hx'=>setRow_other w g' x' _ hx'
          have hFd:∀ x',F x'→¬ fs d x':=by
           intro x' hx' hf
           obtain⟨d1,c1,hd1,hn1,hf1⟩:=hgone x' hx'
           exact h.disj _ _ _ _ hd1 hb (fun he=>by subst he;rw[hn1] at hb1;cases hb1) x' hf1 hf
          have hrel0:=hRF.over (a0 * sz0+j) hR (fun x' hx' hg'=>hFd x' hx' (hG x' hg'))
          have hrel:=RelL.frame (w':=w.setRow g' (overV cur.toList (a0 * sz0+j) (a.eval y).cells.toList).toArray) (I':=I) (fun x' hx'=>hSO x' (fun he=>hS1.imm d _ hb1 _ hgF.1 (he ▸ hx'))) (fun _ h=>h) hrel0
           (fun x' hx'=>hSO x' (fun he=>hx'.elim (fun h1=>hgF.2 (he ▸ h1)) (fun h1=>hFd x' h1 (he ▸ hgF.1))))
          have hfl:(rows.set a0 (overL r j cs)).flatten=overL rows.flatten (a0 * sz0+j) cs:=flatten_over cs rows hu a0 r hr j (by omega)
          rw[← hfl] at hrel
          have hxl:xs.length=rows.length * sz0:=how.1
          have hown':OwnsW (w.setRow g' (overV cur.toList (a0 * sz0+j) (a.eval y).cells.toList).toArray) 0 e sz0 (.slice (some ⟨g',0,none⟩) rows.length cap) (rows.set a0 (overL r j cs)).length (overV xs (a0 * sz0+j) (a.eval y).cells.toList):=by
           rw[List.length_set]
           refine⟨by rw[overV_length];exact how.1,.inr ⟨g',cap,_,rfl,Nat.zero_le _,setRow_heap w g' cur _ e (0,0) hh,hnc,hcm,by simpa [overV_length] using hcs,?_⟩⟩
           rw[← htake]
           exact overV_take (by simp;omega) (by simp;omega)
          have hset:=hS1.setBlk (b:=⟨.arr,sz0,rows⟩) hb1 (b':=⟨.arr,sz0,rows.set a0 (overL r j cs)⟩) rfl rfl (fun x' hx'=>hSO x' (fun he=>hx' (he ▸ hgF.1))) hbel (F:=fun x'=>fs d x'∨F x')
           ⟨e,_,_,fun r' hr'=>by
             rcases List.mem_or_eq_of_mem_set hr' with h1 | h1
             ·exact hu r' h1
             ·rw [h1,overL_length];exact hrl,by rw[hvd];exact hown',hrel,fun x' hx'=>hx'.elim (fun h1=>.inl (hG x' h1)) .inr,
            fun x' hx'=>by
             rw[hvd] at hx'
             simp[Value.ownBlock] at hx'
             subst hx'
             exact⟨.inl hgF.1,fun h1=>h1.elim hgF.2 (fun h2=>hFd _ h2 hgF.1)⟩⟩
           (fun x' hx'=>by
            rcases hx' with hx' | hx'
            ·simpa using hS1.new d _ hb1 _ hx'
            obtain⟨d1,c1,hd1,hn1,hf1⟩:=hgone x' hx'
            simpa using h.new _ _ hd1 _ hf1)
           (fun x' hx'=>by
            rcases hx' with hx' | hx'
            ·exact hS1.imm d _ hb1 _ hx'
            obtain⟨d1,c1,hd1,hn1,hf1⟩:=hgone x' hx'
            exact h.imm _ _ hd1 _ hf1)
           (fun x' hx' e' c' hne he=>by
            rcases hx' with hx' | hx'
            ·exact hS1.disj _ _ _ _ hb1 he (Ne.symm hne) x' hx'
            obtain⟨d1,c1,hd1,hn1,hf1⟩:=hgone x' hx'
            obtain⟨c0,hc0,_⟩:=hsub e' c' he
            exact h.disj _ _ _ _ hd1 hc0 (fun h0=>by subst h0;rw[hn1] at he;cases he) x' hf1)
          refine⟨undef,w.setRow g' (overV cur.toList (a0 * sz0+j) (a.eval y).cells.toList).toArray,.inr ⟨by simp[execOp,ho,hv,Instr.storeAt,Instr.sureAddr,hrun],rfl⟩,?_⟩
          rw[hdst]
          exact⟨I,_,_,hset⟩
         cases hs
        cases hs
       cases hs
      cases hs
     cases hs
    cases hs
  cases hs
 cases hs
def Src (w:World)(v:Value)(m:Nat)(news:List Value):Prop:=
 (∃ ad c,v=.slice (some ad) m c∧∀(j:Nat) (u:Value),news[j]? =some u→w.cell? (ad.add j)=some u)∨(v=.slice none 0 0∧m=0∧news=[])
theorem run_append_any {t ty e e0:TypeId}{inf:TypeInfo}{z:Value}(ht:P.underlying t=some (.slice e))(hi:P.info? e=some inf)(hz:inf.zero=some z)(hzs:z.cells.size=inf.size)
  {v v2:Value} {n m:Nat} {xs news:List Value} (hown:OwnsW w 0 e0 inf.size v n xs) (hsrc:Src w v2 m news) (hl:news.length=m * inf.size) (h1:∀ u∈news,u.oneCell'=true)
  (hsz:0 < inf.size) (hbytes:(n+m) * inf.bytes≤140737488355328) (hbp:0 < inf.bytes):
  ∃ v' w' e1,(Builtin.append_ #[t,t] ty #[v,v2]).run P w=.ok v' w'∧OwnsW w' 0 e1 inf.size v' (n+m) (xs++news)∧w.grownBy w' v.ownBlock∧(∀ g,v'.ownBlock=some g→v.ownBlock=some g∨w.heap.size≤g):=by
 have hnm:n+m≤140737488355328:=Nat.le_trans (Nat.le_mul_of_pos_right _ hbp) hbytes
 have h63:n+m≤maxLen:=by simp only[maxLen];omega
 have hlen:(xs++news).length=(n+m) * inf.size:=by rw[List.length_append,hown.1,hl,Nat.add_mul]
 have same:v2.ownBlock=v2.ownBlock:=rfl
 have keep:∀(hm:m=0),(Builtin.append_ #[t,t] ty #[v,v2]).run P w=.ok v w→∃ v' w' e1,(Builtin.append_ #[t,t] ty #[v,v2]).run P w=.ok v' w'∧OwnsW w' 0 e1 inf.size v' (n+m) (xs++news)∧w.grownBy w' v.ownBlock∧(∀ g,v'.ownBlock=some g→v.ownBlock=some g∨w.heap.size≤g):=by
  intro hm hr
  have hn0:news=[]:=List.eq_nil_of_length_eq_zero (by rw[hl,hm,Nat.zero_mul])
  refine⟨v,w,e0,hr,by rw[hn0,hm];simpa using hown,⟨rfl,rfl,rfl,Nat.le_refl _,fun _ _ _=>rfl⟩,fun g hg=>.inl hg⟩
 have grown:∀(old:Nat),old < n+m→∀(row:Option Nat),
   OwnsW (w.drew.alloc (.cells (xs.toArray++news.toArray++Builtin.zeroCells z.cells (grownCap w (n+m) old e - (n+m))) e)) 0 e inf.size
    (.slice (some ⟨w.heap.size,0,none⟩) (n+m) (grownCap w (n+m) old e)) (n+m) (xs++news)∧
   w.grownBy (w.drew.alloc (.cells (xs.toArray++news.toArray++Builtin.zeroCells z.cells (grownCap w (n+m) old e - (n+m))) e)) row:=by
  intro old hold row
  have hge:=grownCap_ge w (n+m) old e
  refine⟨⟨hlen,.inr ⟨w.heap.size,_,_,rfl,Nat.zero_le _,heap_alloc_new w.drew _,hge,grownCap_le_maxLen w (n+m) old e h63,?_,?_⟩⟩,⟨rfl,rfl,rfl,by simp,fun k hk _=>heap_alloc_old w.drew _ hk⟩⟩
  ·refine Nat.le_of_eq (Eq.symm ?_)
   simp only[Array.size_append,List.size_toArray,size_zeroCells,hzs,hown.1,hl,← Nat.add_mul]
   congr 1
   omega
  simp only[Array.toList_append,List.append_assoc]
  rw[← List.append_assoc,← hlen]
  exact List.take_left
 rcases hsrc with ⟨ad,c,rfl,hnews⟩ | ⟨rfl,rfl,rfl⟩
 ·rcases hown.2 with ⟨rfl,hn0⟩ | ⟨g,cap,cur,rfl,_,hg,hnc,hcm,hcs,htake⟩
  ·subst hn0
   by_cases hm:m=0
   ·subst hm
    refine keep rfl ?_
    simp[Builtin.append_,run_underlying ht,sizeOf,typeInfo,hi,Builtin.lenOf,Builtin.firstCells,loadCells,loadCellsFrom]
   have hx:xs=[]:=List.eq_nil_of_length_eq_zero (by simpa using hown.1)
   subst hx
   have hr:=run_append_nil (P:=P) w t ty e inf z ht hi hz ad m c news hl hnews (by omega) (by omega) (by simp only[Nat.zero_add] at hbytes;omega)
   have hgr:=grown 0 (by omega) (Value.ownBlock (.slice none 0 0))
   simp only[Nat.zero_add,List.nil_append,Array.empty_append] at hgr ⊢
   exact⟨_,_,e,hr,hgr.1,hgr.2,fun g hg=>.inr (by simp[Value.ownBlock] at hg;omega)⟩
  by_cases hroom:n+m≤cap
  ·have hfit:n * inf.size+0+news.length≤cur.size:=Nat.le_trans (by rw[hl,Nat.add_zero,← Nat.add_mul];exact Nat.mul_le_mul_right _ hroom) hcs
   have hf:=run_firstCells_some (P:=P) w inf.size m ad m c news hl hnews
   have hst:=run_storeCells_at P g (n * inf.size) e0 news 0 cur w hg hfit h1
   simp only[Nat.add_zero] at hst hfit
   have hr:(Builtin.append_ #[t,t] ty #[.slice (some ⟨g,0,none⟩) n cap,.slice (some ad) m c]).run P w=
     .ok (.slice (some ⟨g,0,none⟩) (n+m) cap) (w.setRow g (cur.toList.take (n * inf.size)++news++cur.toList.drop (n * inf.size+news.length)).toArray):=by
    simp[Builtin.append_,run_underlying ht,sizeOf,typeInfo,hi,Builtin.lenOf,hroom,hf,Addr.add_lit,hst]
   refine⟨_,_,e0,hr,⟨hlen,.inr ⟨g,cap,_,rfl,Nat.zero_le _,setRow_heap w g cur _ e0 _ hg,hroom,hcm,?_,?_⟩⟩,⟨rfl,rfl,rfl,by simp,fun k _ hk=>setRow_other w g k _ (fun e=>hk (by simp[Value.ownBlock,e]))⟩,fun g' hg'=>.inl hg'⟩
   ·simp only[List.size_toArray,List.length_append,List.length_take,List.length_drop,Array.length_toList]
    omega
   rw[htake,← hlen]
   exact List.take_left
  have holds:∀ j u,xs[j]? =some u→w.cell? ((⟨g,0,none⟩:Addr).add j)=some u:=hown.cells (g:=g) rfl
  have hr:=run_append_grow (P:=P) w t ty e inf z ht hi hz ⟨g,0,none⟩ n cap xs hown.1 holds ad m c news hl hnews (by omega) (by omega) (growslice_fits (by omega) hbytes)
  have hgr:=grown cap (by omega) (Value.ownBlock (.slice (some ⟨g,0,none⟩) n cap))
  exact⟨_,_,e,hr,hgr.1,hgr.2,fun g' hg'=>.inr (by simp[Value.ownBlock] at hg';omega)⟩
 refine keep rfl ?_
 rcases hown.2 with ⟨rfl,hn0⟩ | ⟨g,cap,cur,rfl,_,hg,hnc,hcm,hcs,htake⟩
 ·simp [Builtin.append_,run_underlying ht,sizeOf,typeInfo,hi,Builtin.lenOf,Builtin.firstCells,loadCells,loadCellsFrom]
 simp[Builtin.append_,run_underlying ht,sizeOf,typeInfo,hi,Builtin.lenOf,Builtin.firstCells,loadCells,loadCellsFrom,hnc,storeCells]
theorem newsOf_rel (h:Sim B W0 I0 I val fs σ a w){c:PV}{v:Value}(hc:RelS w I val σ.bl c v){sz:Nat}{news:List (List PV)}(hn:newsOf σ sz c=some (news,σ')):
  ∃ F us,Sim B W0 I0 I val fs σ' a w∧Src w v news.length us∧RelL w I news.flatten us F∧(∀ r∈news,r.length=sz)∧Gone fs σ.bl σ'.bl F∧Sub σ.bl σ'.bl∧(∀ u∈us,u.oneCell'=true):=by
 unfold newsOf at hn
 split at hn
 ·rename_i d
  have hvd:v=val d:=by cases hc with
   | leaf c v hl h=>cases hl
   | own d b hb hk=>rfl
  subst hvd
  split at hn
  ·rename_i sz' rows hb
   cases hz:nq sz' sz with
   | false=>simp[hz] at hn
   | true=>
    have hz:=nq_eq hz
    subst hz
    simp only[beq_true,cond_true,Option.some.injEq,Prod.mk.injEq] at hn
    obtain⟨rfl,rfl⟩:=hn
    obtain⟨e,xs,G,hu,how,hR,hG,hob⟩:=h.blocks d _ hb
    refine⟨fs d,xs,h.drop d,?_,hR.mono hG,hu,fun x hx=>⟨d,_,hb,?_,hx⟩,sub_drop σ.bl d,relL_ones hR⟩
    ·rcases how.2 with ⟨h1,h2⟩ | ⟨g,cap,cur,h1,_⟩
     ·have hx:xs=[]:=List.eq_nil_of_length_eq_zero (by rw[how.1,h2,Nat.zero_mul])
      exact .inr ⟨h1,h2,hx⟩
     exact .inl ⟨⟨g,0,none⟩,cap,h1,how.cells (by rw[h1];rfl)⟩
    show blk (killB d (delB σ.bl d)) d=none
    rw[blk_killB,blk_delB,if_pos rfl];rfl
  ·rename_i sz' r hb
   cases hz:nq sz' sz with
   | false=>simp[hz] at hn
   | true=>
    have hz:=nq_eq hz
    subst hz
    simp only[beq_true,cond_true] at hn
    split at hn
    ·rename_i r' σ1 habs
     simp only[Option.some.injEq,Prod.mk.injEq] at hn
     obtain⟨rfl,rfl⟩:=hn
     obtain⟨g,hvd,_,T',c',hfg,hh,hsl,hrl,_⟩:=h.blocks d _ hb
     obtain⟨F,hS1,hRF,hgone,hsub,hclen⟩:=absorbL_rel (h.drop d) hsl habs
     refine⟨F,c'.toList,hS1,.inl ⟨⟨g,0,none⟩,1,hvd,fun j u hj=> ?_⟩,by simpa using hRF,fun r0 hr0=> ?_,fun x hx=> ?_,(sub_drop σ.bl d).trans hsub,relL_ones hRF⟩
     ·rw [Addr.add_mid,Nat.zero_add,cell_of_row w g j c' T' (0,0) hh];simpa using hj
     ·simp at hr0;subst hr0;rw[hclen];exact hrl
     obtain⟨d1,c1,hd1,hn1,hf1⟩:=hgone x hx
     obtain⟨c0,hc0,_⟩:=sub_drop σ.bl d d1 c1 hd1
     exact⟨d1,c0,hc0,hn1,hf1⟩
    cases hn
  cases hn
 ·rename_i sz' rows
  cases hz:nq sz' sz with
  | false=>simp[hz] at hn
  | true=>
   have hz:=nq_eq hz
   subst hz
   simp only[beq_true,cond_true,Option.some.injEq,Prod.mk.injEq] at hn
   obtain⟨rfl,rfl⟩:=hn
   cases hc with
   | leaf c v hl hV=>
    cases hV with
    | slnil=>exact⟨none',[],h,.inr ⟨rfl,rfl,rfl⟩,.nil _,fun r hr=>by simp at hr,fun _ h=>h.elim,Sub.refl _,fun u hu=>by simp at hu⟩
    | sl sz rows ad cap vs F hu hI hs hcell hr hcap=>exact⟨none',vs,h,.inl ⟨ad,cap,rfl,hcell⟩,hr,hu,fun _ h=>h.elim,Sub.refl _,relL_ones hr⟩
 ·simp only[Option.some.injEq,Prod.mk.injEq] at hn
  obtain⟨rfl,rfl⟩:=hn
  cases hc with
  | leaf c v hl hV=>
   cases hV with
   | zc=>exact⟨none',[],h,.inr ⟨rfl,rfl,rfl⟩,.nil _,fun r hr=>by simp at hr,fun _ h=>h.elim,Sub.refl _,fun u hu=>by simp at hu⟩
 cases hn
theorem Sim.killSet (h:Sim B W0 I0 I val fs σ a w){d:Nat}{sz:Nat}{rows rows':List (List PV)}(hd:blk σ.bl d=some ⟨.arr,sz,rows⟩)
    (hsame:∀ x,x < w.heap.size→¬ fs d x→w'.heap[x]? =w.heap[x]?) (hb:Kept B w w') {v':Value} {F:Ft}
    (hB:ArrR w' I sz rows' v' F) (hF:∀ x,F x→B x∧x < w'.heap.size) (hI:∀ x,F x→¬ I x) (hO:∀ x,F x→∀ e c,e≠d→blk σ.bl e=some c→¬ fs e x):
    Sim B W0 I0 I (upd val d v') (upd fs d F) {sl:=killS d σ.sl,bl:=setB (killB d σ.bl) d ⟨.arr,sz,rows'⟩,hd:=delV σ.hd d} a w':=by
  have hv:∀ e,e≠d→upd val d v' e=val e:=fun e he=>upd_ne _ _ he
  have hE:Less d σ.bl (setB (killB d σ.bl) d ⟨.arr,sz,rows'⟩):=by
    intro e b hne hb
    refine⟨killK d b,?_,(killK_k d b).2,(killK_k d b).1⟩
    rw[blk_setB,if_neg (Ne.symm hne),blk_killB,hb]
    rfl
  have hSI:SameOn I w w':=fun x hx=>hsame x (h.lt x hx) (fun hf=>h.imm d _ hd x hf hx)
  have look:∀ e c,blk (setB (killB d σ.bl) d ⟨.arr,sz,rows'⟩) e=some c→(e=d∧c=⟨.arr,sz,rows'⟩)∨(e≠d∧∃ b,blk σ.bl e=some b∧c=killK d b):=by
    intro e c he
    rw[blk_setB] at he
    by_cases h0:d=e
    · rw[if_pos h0] at he;exact .inl ⟨h0.symm,by simpa using he.symm⟩
    · rw[if_neg h0,blk_killB] at he
      cases hq:blk σ.bl e with
      | none=>rw[hq] at he;cases he
      | some b=>rw[hq] at he;exact .inr ⟨Ne.symm h0,b,rfl,by simpa using he.symm⟩
  have hsl:RelSL w' I val σ.bl σ.sl a.tmps.toList:=RelSL.frame hSI (fun _ h=>h) (Ext.refl _ _) h.slots
  refine{slots:=hsl.kill' hE hv,blocks:=fun e c he=> ?_,disj:=fun e e' c c' he he' hne x hx hx'=> ?_,imm:=fun e c he x hx=> ?_,
           new:=fun e c he x hx=> ?_,lt:=fun x hx=>Nat.lt_of_lt_of_le (h.lt x hx) hb.size,old:=h.old,below:=h.below.trans hb,size:=fun x hx=>h.size x (Nat.le_trans hb.size hx),heads:=fun e v he=> ?_,defers:=h.defers}
  · rcases look e c he with ⟨rfl,rfl⟩ | ⟨hne,b,he2,rfl⟩
    · rw[upd_same,upd_same];exact hB
    · rw[upd_ne _ _ hne,upd_ne _ _ hne]
      have hb1:=(h.blocks e b he2).frame (w':=w') hSI (fun _ h=>h) (Ext.refl _ _) (fun x hx=>hsame x (h.new e b he2 x hx).2 (fun hf=>h.disj _ _ _ _ he2 hd hne x hx hf))
      exact hb1.kill' hE hv
  · rcases look e c he with ⟨rfl,rfl⟩ | ⟨hn1,b1,h1,_⟩<;>rcases look e' c' he' with ⟨rfl,rfl⟩ | ⟨hn2,b2,h2,_⟩
    · exact hne rfl
    · rw[upd_same] at hx;rw[upd_ne _ _ hn2] at hx';exact hO x hx _ _ hn2 h2 hx'
    · rw[upd_same] at hx';rw[upd_ne _ _ hn1] at hx;exact hO x hx' _ _ hn1 h1 hx
    · rw[upd_ne _ _ hn1] at hx;rw[upd_ne _ _ hn2] at hx';exact h.disj _ _ _ _ h1 h2 hne x hx hx'
  · rcases look e c he with ⟨rfl,rfl⟩ | ⟨hn1,b1,h1,_⟩
    · rw[upd_same] at hx;exact hI x hx
    · rw[upd_ne _ _ hn1] at hx;exact h.imm _ _ h1 x hx
  · rcases look e c he with ⟨rfl,rfl⟩ | ⟨hn1,b1,h1,_⟩
    · rw[upd_same] at hx;exact hF x hx
    · rw[upd_ne _ _ hn1] at hx;exact⟨(h.new _ _ h1 x hx).1,Nat.lt_of_lt_of_le (h.new _ _ h1 x hx).2 hb.size⟩
  · obtain⟨hne,he⟩:=lookV_del he
    obtain⟨h1,c,hc⟩:=h.heads e v he
    obtain⟨c',hc',_⟩:=hE e c hne hc
    exact⟨by rw[upd_ne _ _ hne];exact h1,c',hc'⟩
theorem goes_append (hT:TyOk P T)(h:Sim B W0 I0 I val fs σ a w){t:TypeId}{x y:Operand}(ho:o.op=.call {callee:=.builtin .append,args:=#[x,y],argTypes:=#[t,t]})
  (hs:stAppend T σ o.dst t x y=some σ'):Goes P B W0 I0 o a w σ':=by
 unfold stAppend at hs
 split at hs
 ·rename_i dd e sz0 by0 z0 hdd ht
  obtain⟨_,_,_,_,_,_,_,_,_,hk⟩:=hT _ _ ht
  have hk:P.underlying t=some (.slice e):=hk
  split at hs
  ·rename_i ie hte
   obtain⟨inf,z,hi,hsz,hby,hz,hzr,hzl,hza,_⟩:=hT _ _ hte
   have hzs:z.cells.size=inf.size:=by have:=(hzr w I).len;simp at this;omega
   split at hs
   ·rename_i news σ1 hnews
    obtain⟨F,us,hS1,hsrc,hRF,hun,hgone,hsub,hones⟩:=newsOf_rel h (h.eval y) hnews
    have hlus:us.length=news.length * inf.size:=by
     rw[hRF.len,hsz]
     clear hnews hsrc hRF hs
     induction news with
     | nil=>simp
     | cons r l ih=>
      simp only[List.flatten_cons,List.length_append,List.length_cons,Nat.succ_mul]
      rw[ih (fun r hr=>hun r (by simp[hr])),hun r (by simp)]
      omega
    have ex:=hS1.eval x
    split at hs
    ·rename_i d hx
     rw[hx] at ex
     split at hs
     ·rename_i sz rows hbd
      split at hs
      ·rename_i hc
       simp only[Bool.and_eq_true,decide_eq_true_eq] at hc
       obtain⟨⟨⟨hc1,hc2⟩,hc3⟩,hc4⟩:=hc
       have hc1:=nq_eq hc1
       simp only[Option.some.injEq] at hs
       subst hs
       subst hc1
       have hvd:a.eval x=val d:=by
        generalize a.eval x=v at ex
        cases ex with
        | leaf c v hl h=>cases hl
        | own d b hb hk=>rfl
       obtain⟨e0,xs,G,hu,how,hR,hG,hob⟩:=hS1.blocks d _ hbd
       obtain⟨v',w',e1,hrun,how',hgr,hnew⟩:=run_append_any (P:=P) (ty:=o.type) hk hi hz hzs (v:=val d) (v2:=a.eval y) (by rw[hsz];exact how) hsrc hlus hones (by omega) (by rw[hby];exact hc2) (by omega)
       rw[hsz] at how'
       have hFd:∀ x',F x'→¬ fs d x':=by
        intro x' hx' hf
        obtain⟨d1,c1,hd1,hn1,hf1⟩:=hgone x' hx'
        obtain⟨c0,hc0,_⟩:=hsub d _ hbd
        exact h.disj _ _ _ _ hd1 hc0 (fun he=>by subst he;rw[hn1] at hbd;cases hbd) x' hf1 hf
       have hFlt:∀ x',F x'→B x'∧x' < w.heap.size:=by
        intro x' hx'
        obtain⟨d1,c1,hd1,hn1,hf1⟩:=hgone x' hx'
        exact h.new _ _ hd1 _ hf1
       have hFI:∀ x',F x'→¬ I x':=by
        intro x' hx'
        obtain⟨d1,c1,hd1,hn1,hf1⟩:=hgone x' hx'
        exact h.imm _ _ hd1 _ hf1
       have hobf:∀ k,(val d).ownBlock=some k→fs d k:=fun k hk'=>(hob k hk').1
       have hbel:Kept B w w':=grown_kept hgr (fun k hk'=>(hS1.new d _ hbd k (hobf k hk')).1) h.size
       have hsame:∀ x',x' < w.heap.size→¬ fs d x'→w'.heap[x']? =w.heap[x']? :=fun x' hx' hn'=>hgr.block x' hx' (fun he=>hn' (hobf x' he.symm))
       have hrel0:RelL w I (rows.flatten++news.flatten) (xs++us) (fun b=>G b∨F b):=hR.append hRF (fun b hb1 hb2=>hFd b hb2 (hG b hb1)) (fun _ h=>.inl h) (fun _ h=>.inr h)
       have hrel:RelL w' I (rows++news).flatten (xs++us) (fun b=>G b∨F b):=by
        rw[List.flatten_append]
        refine RelL.frame (fun x' hx'=>hsame x' (h.lt x' hx') (fun hf=>hS1.imm d _ hbd x' hf hx')) (fun _ h=>h) hrel0 (fun x' hx'=> ?_)
        refine hgr.block x' ?_ (fun he=> ?_)
        ·rcases hx' with hx' | hx'
         ·exact(hS1.new d _ hbd x' (hG x' hx')).2
         exact(hFlt x' hx').2
        rcases hx' with hx' | hx'
        ·exact(hob x' he.symm).2 hx'
        exact hFd x' hx' (hobf x' he.symm)
       have hlt':∀ k,v'.ownBlock=some k→k < w'.heap.size:=fun k hk'=>(how'.lt k hk').2
       have hset:=hS1.killSet hbd (w':=w') hsame hbel (v':=v') (rows':=rows++news) (F:=fun x'=>fs d x'∨F x'∨v'.ownBlock=some x')
        ⟨e1,xs++us,_,fun r hr=>by
          rcases List.mem_append.1 hr with h1 | h1
          ·exact hu r h1
          ·exact hun r h1,by rw[List.length_append];exact how',hrel,fun x' hx'=>hx'.elim (fun h1=>.inl (hG x' h1)) (fun h1=>.inr (.inl h1)),
         fun x' hx'=>⟨.inr (.inr hx'),fun h1=>by
          rcases hnew x' hx' with h2 | h2
          ·exact h1.elim (hob x' h2).2 (fun h3=>hFd x' h3 (hobf x' h2))
          exact h1.elim (fun h3=>by have:=(hS1.new d _ hbd x' (hG x' h3)).2;omega) (fun h3=>by have:=(hFlt x' h3).2;omega)⟩⟩
        (fun x' hx'=>by
         rcases hx' with hx' | hx' | hx'
         ·exact⟨(hS1.new d _ hbd _ hx').1,Nat.lt_of_lt_of_le (hS1.new d _ hbd _ hx').2 hbel.size⟩
         ·exact⟨(hFlt x' hx').1,Nat.lt_of_lt_of_le (hFlt x' hx').2 hbel.size⟩
         refine⟨?_,hlt' x' hx'⟩
         rcases hnew x' hx' with h2 | h2
         ·exact(hS1.new d _ hbd _ (hobf x' h2)).1
         exact h.size _ h2)
        (fun x' hx' hI'=>by
         rcases hx' with hx' | hx' | hx'
         ·exact hS1.imm d _ hbd _ hx' hI'
         ·exact hFI x' hx' hI'
         rcases hnew x' hx' with h2 | h2
         ·exact hS1.imm d _ hbd _ (hobf x' h2) hI'
         have:=h.lt x' hI';omega)
        (fun x' hx' e' c' hne he hf=>by
         rcases hx' with hx' | hx' | hx'
         ·exact hS1.disj _ _ _ _ hbd he (Ne.symm hne) x' hx' hf
         ·obtain⟨d1,c1,hd1,hn1,hf1⟩:=hgone x' hx'
          obtain⟨c0,hc0,_⟩:=hsub e' c' he
          exact h.disj _ _ _ _ hd1 hc0 (fun h0=>by subst h0;rw[hn1] at he;cases he) x' hf1 hf
         rcases hnew x' hx' with h2 | h2
         ·exact hS1.disj _ _ _ _ hbd he (Ne.symm hne) x' (hobf x' h2) hf
         have:=(hS1.new _ _ he _ hf).2;omega)
       have hp:=hset.put (some dd) (c:=.own d) (v:=v') (by
        have:=RelS.own (w:=w') (I:=I) (val:=upd val d v') (bl:=setB (killB d σ1.bl) d ⟨.arr,ie.size,rows++news⟩) d _ (by rw[blk_setB,if_pos rfl]) (by intro h;cases h)
        rwa [upd_same] at this)
       refine⟨v',w',.inl (by simp[execOp,ho,resolve,invoke,builtin,hvd,hrun]),?_⟩
       rw[hdd]
       exact⟨I,_,_,hp⟩
      cases hs
     cases hs
    ·rename_i hx
     rw[hx] at ex
     split at hs
     ·rename_i hc
      simp only[Bool.and_eq_true,decide_eq_true_eq] at hc
      obtain⟨⟨hc2,hc3⟩,hc4⟩:=hc
      split at hs
      ·rename_i hbd
       simp only[Option.some.injEq] at hs
       subst hs
       have hvd:a.eval x=.slice none 0 0:=by
        generalize a.eval x=v at ex
        cases ex with
        | leaf c v hl h=>cases h;rfl
       obtain⟨v',w',e1,hrun,how',hgr,hnew⟩:=run_append_any (P:=P) (w:=w) (ty:=o.type) hk hi hz hzs (e0:=e) (v:=.slice none 0 0) (n:=0) (xs:=[]) (v2:=a.eval y) (OwnsW.nil w 0 e inf.size) hsrc hlus hones (by omega) (by rw[hby,Nat.zero_add];exact hc2) (by omega)
       rw[hsz,Nat.zero_add,List.nil_append] at how'
       have hbel:Below w.heap.size w w':=grown_below hgr (fun k hk'=>by simp[Value.ownBlock] at hk') (Nat.le_refl _)
       have hS2:=hS1.grow hbel
       have hFlt:∀ x',F x'→B x'∧x' < w.heap.size:=by
        intro x' hx'
        obtain⟨d1,c1,hd1,hn1,hf1⟩:=hgone x' hx'
        exact h.new _ _ hd1 _ hf1
       have hFI:∀ x',F x'→¬ I x':=by
        intro x' hx'
        obtain⟨d1,c1,hd1,hn1,hf1⟩:=hgone x' hx'
        exact h.imm _ _ hd1 _ hf1
       have hnew':∀ k,v'.ownBlock=some k→w.heap.size≤k∧k < w'.heap.size:=fun k hk'=>⟨(hnew k hk').elim (fun h=>by simp[Value.ownBlock] at h) id,(how'.lt k hk').2⟩
       have hrel:RelL w' I news.flatten us F:=RelL.frame (fun x' hx'=>hbel.block x' (h.lt x' hx')) (fun _ h=>h) hRF (fun x' hx'=>hbel.block x' (hFlt x' hx').2)
       have hn:=hS2.newBlk hbd (b:=⟨.arr,ie.size,news⟩) (v:=v') (F:=fun x'=>F x'∨v'.ownBlock=some x')
        ⟨e1,us,F,hun,how',hrel,fun _ h=>.inl h,fun b hb=>⟨.inr hb,fun hf=>by have:=(hFlt b hf).2;have:=(hnew' b hb).1;omega⟩⟩
        (fun x' hx'=>hx'.elim (fun h1=>⟨(hFlt x' h1).1,Nat.lt_of_lt_of_le (hFlt x' h1).2 hbel.size⟩) (fun h1=>⟨h.size _ (hnew' x' h1).1,(hnew' x' h1).2⟩))
        (fun x' hx' hI'=>hx'.elim (fun h1=>hFI x' h1 hI') (fun h1=>by have:=h.lt x' hI';have:=(hnew' x' h1).1;omega))
        (fun x' hx' e' c' he hf=>hx'.elim (fun h1=>by
         obtain⟨d1,c1,hd1,hn1,hf1⟩:=hgone x' h1
         obtain⟨c0,hc0,_⟩:=hsub e' c' he
         exact h.disj _ _ _ _ hd1 hc0 (fun h0=>by subst h0;rw[hn1] at he;cases he) x' hf1 hf) (fun h1=>by have:=(hS1.new _ _ he _ hf).2;have:=(hnew' x' h1).1;omega))
       have hp:=hn.put (some dd) (c:=.own dd) (v:=v') (by
        have:=RelS.own (w:=w') (I:=I) (val:=upd val dd v') (bl:=(dd,⟨.arr,ie.size,news⟩)::σ1.bl) dd _ (by rw[blk_cons,if_pos rfl]) (by intro h;cases h)
        rwa [upd_same] at this)
       refine⟨v',w',.inl (by simp[execOp,ho,resolve,invoke,builtin,hvd,hrun]),?_⟩
       rw[hdd]
       exact⟨I,_,_,hp⟩
      cases hs
     cases hs
    cases hs
   cases hs
  cases hs
 cases hs
theorem run_slice3 {t e:TypeId}{a:Option Addr}{n cap:Nat}{s:Nat}(hk:P.underlying t=some (.slice e))(hsz:(sizeOf e).run P w=.ok s w)(k k':IntKind)(hc:n≤cap):
  (Instr.slice t (.slice a n cap) none (some (.int k (n:Int))) (some (.int k' (n:Int)))).run P w=.ok (.slice (if n=0 then a else a.map (·.add (0 * s))) n n) w:=by
 simp[Instr.slice,run_underlying hk,Instr.sliceBounds,run_sliceBound,hsz,hc]
theorem goes_slice3 (hT:TyOk P T)(h:Sim B W0 I0 I val fs σ a w){t:TypeId}{x:Operand}{lo:Option Operand}{hi mx:Operand}(ho:o.op=.slice t x lo (some hi) (some mx))
  (hs:stSlice3 T σ o.dst t (σ.get x) lo (σ.get hi) (σ.get mx)=some σ'):Goes P B W0 I0 o a w σ':=by
 unfold stSlice3 at hs
 split at hs
 case h_2=>cases hs
 rename_i e _ _ _ d dd ht hx hdd
 obtain⟨_,_,_,_,_,_,_,_,_,hk⟩:=hT _ _ ht
 have hk:P.underlying t=some (.slice e):=hk
 split at hs
 case h_2=>cases hs
 rename_i ie sz rows k n k' n' hte hbd hhi hmx
 obtain⟨inf,_,hi',hsz,_⟩:=hT _ _ hte
 split at hs
 case h_2=>cases hs
 rename_i hc
 simp only[Option.some.injEq] at hs
 subst hs
 simp only[Bool.and_eq_true,decide_eq_true_eq] at hc
 obtain⟨⟨h1,h2⟩,hbs⟩:=hc
 subst h1;subst h2
 have ex:=h.eval x
 rw[hx] at ex
 have ehi:=h.eval hi
 rw[hhi] at ehi
 have ehi:=rel_int ehi
 have emx:=h.eval mx
 rw[hmx] at emx
 have emx:=rel_int emx
 have hvd:a.eval x=val d:=by
  generalize a.eval x=v at ex
  cases ex with
  | leaf c v hl h=>cases hl
  | own d b hb hk=>rfl
 have hsize:(sizeOf e).run P w=.ok inf.size w:=by simp[sizeOf,typeInfo,hi']
 obtain⟨e0,xs,G,hu,how,hR,hG,hob⟩:=h.blocks d _ hbd
 have hk':P.underlying t=some (.slice (P.elem t)):=by
  have he:P.elem t=e:=by simp[Program.elem,hk]
  rw[he];exact hk
 -- the value with no room behind
 have key:∃ v',(Instr.sliceAt t (val d) none (some (.int k (rows.length:Int))) (some (.int k' (rows.length:Int)))).run P w=.ok v' w∧OwnsW w 0 e0 sz v' rows.length xs∧v'.ownBlock=(val d).ownBlock:=by
  rcases how.2 with ⟨hv,hn⟩ | ⟨g,cap,cur,hv,hg,hh,hnc,hcm,hcs,htk⟩
  ·refine⟨.slice none 0 0,?_,by rw[← hv];exact how,by rw[hv]⟩
   have:=run_slice3 (P:=P) (w:=w) (a:=none) (n:=0) (cap:=0) hk hsize k k' (Nat.le_refl _)
   rw[run_sliceAt_slice (h:=hk'),hv,hn]
   simpa using this
  refine⟨.slice (some ⟨g,0,none⟩) rows.length rows.length,?_,⟨how.1,.inr ⟨g,rows.length,cur,rfl,hg,hh,Nat.le_refl _,Nat.le_trans hnc hcm,Nat.le_trans (Nat.mul_le_mul_right _ hnc) hcs,htk⟩⟩,by rw[hv];rfl⟩
  have:=run_slice3 (P:=P) (w:=w) (a:=some ⟨g,0,none⟩) (n:=rows.length) (cap:=cap) hk hsize k k' hnc
  rw[run_sliceAt_slice (h:=hk'),hv]
  have ha:(if rows.length=0 then some (⟨g,0,none⟩:Addr) else (some (⟨g,0,none⟩:Addr)).map (·.add (0 * inf.size)))=some ⟨g,0,none⟩:=by
   rw[Nat.zero_mul];split<;>simp[Addr.add_lit]
  rw[ha] at this
  exact this
 obtain⟨v',hrun,how',hown⟩:=key
 have hset:=h.killSet hbd (w':=w) (fun _ _ _=>rfl) (Kept.refl _ _) (v':=v') (rows':=rows) (F:=fs d) ⟨e0,xs,G,hu,how',hR,hG,fun b hb=>hob b (by rw[← hown];exact hb)⟩
  (fun x' hx'=>h.new d _ hbd x' hx') (fun x' hx'=>h.imm d _ hbd x' hx') (fun x' hx' e' c' hne he hf=>h.disj d e' _ c' hbd he (Ne.symm hne) x' hx' hf)
 have hp:=hset.put (some dd) (c:=.own d) (v:=v') (by
  have:=RelS.own (w:=w) (I:=I) (val:=upd val d v') (bl:=setB (killB d σ.bl) d ⟨.arr,sz,rows⟩) d _ (by rw[blk_setB,if_pos rfl]) (by intro h;cases h)
  rwa [upd_same] at this)
 refine⟨v',w,.inl (by simp[execOp,ho,hvd,ehi,emx,hrun]),?_⟩
 rw[hdd]
 exact⟨I,_,_,hp⟩
end
end Go.Av

/- Lemmas and walks for FnExactServerNew: what each function of the program and of the reference comes to. -/
import Derived.Test.YtghokbigemmaaaaGreatAvw
open Option renaming some→aaQ,map_some→ab2
open Bool renaming and_eq_true→aaR
namespace Go.Av
open Go Go.RowKit
set_option linter.unusedVariables false
set_option linter.unusedSimpArgs false
section
variable {P : Program} {T : dA} {X : Spec} {B : Ft} {W0 : World} {I0 : Ft} {σ aA : St} {a : Act} {w w' : World} {o : Oper} {ops : Array Oper} {Q : Exit -> Act -> World -> Prop}
variable {I : Ft} {val : Nat -> Value} {fs : Nat -> Ft}
mutual
theorem bI.kg {I':Ft}(gj:∀ x,I x->I' x){d:Nat}{b:aO}{pv:PV}{bl:List (Nat × aO)}(hb:av bl d=some b)(hpl:bG pv=true)(hp:dj w I' pv (val d) bf){cy:List (Nat × aO)}(hE:sH d bl cy):
  ∀{c:PV} {v:Value},bI w I val bl c v->bI w I' val cy (Av.kg d pv c) v
 | _,_,.leaf c v hl h=>by
  have hv:Av.kg d pv c=c:=by cases c<;>first | rfl | simp[bG] at hl
  rw[hv]
  exact .leaf _ _ hl (h.frame (bw.refl _ _) gj (bw.refl _ _))
 | _,_,.own e be he hk=>by
  simp only[Av.kg]
  by_cases h0:e=d
  ·subst h0
   simp only[beq_true,cond_true]
   exact .leaf _ _ hpl hp
  simp only[beq_false h0,cond_false]
  obtain⟨b',cP,hs,jl⟩:=hE e be h0 he
  exact .own e b' cP (by rw[jl];exact hk)
 | _,_,.pt e i j be g he hg=>by
  simp only[Av.kg]
  by_cases h0:e=d
  ·subst h0
   simp only[beq_true,cond_true]
   exact .aa _
  simp only[beq_false h0,cond_false]
  obtain⟨b',cP,hs,jl⟩:=hE e be h0 he
  rw[<- hs]
  exact .pt e i j b' g cP hg
 | _,_,.rd cs a vs cP hs hc hr=>.rd cs a vs (λh=>gj _ (cP h)) hs hc (bE.frame (bw.refl _ _) gj hr (bw.refl _ _))
 | _,_,.agg cs vs h=>.agg _ vs (aG.kg gj hb hpl hp hE h)
 | _,_,.aw cs vs h=>.aw _ vs (aG.kg gj hb hpl hp hE h)
 | _,_,.fn f cs vs h=>.fn f _ vs (aG.kg gj hb hpl hp hE h)
 | _,_,.aa v=>.aa v
theorem aG.kg {I':Ft}(gj:∀ x,I x->I' x){d:Nat}{b:aO}{pv:PV}{bl:List (Nat × aO)}(hb:av bl d=some b)(hpl:bG pv=true)(hp:dj w I' pv (val d) bf){cy:List (Nat × aO)}(hE:sH d bl cy):
  ∀{l:List PV} {vs:List Value},aG w I val bl l vs->aG w I' val cy (Av.kD d pv l) vs
 | _,_,.nil=>.nil
 | _,_,.cons c l v vs h t=>.cons _ _ v vs (bI.kg gj hb hpl hp hE h) (aG.kg gj hb hpl hp hE t)
end
def rS (d:Nat)(v:PV):aO->aO
 | ⟨.arr,sz,rows⟩=>⟨.arr,sz,rows⟩
 | ⟨k,sz,[r]⟩=>⟨k,sz,[kD d v r]⟩
 | ⟨k,sz,_⟩=>⟨k,sz,[]⟩
theorem MR (d:Nat)(v:PV)(b:aO):(rS d v b).k=b.k/\(rS d v b).sz=b.sz:=by
 obtain⟨k,sz,rows⟩:=b
 cases k<;>first | exact⟨rfl,rfl⟩ | (match rows with | []=>exact⟨rfl,rfl⟩ | [r]=>exact⟨rfl,rfl⟩ | _::_::_=>exact⟨rfl,rfl⟩)
theorem sk (d:Nat)(v:PV)(e:Nat):∀(l:List (Nat × aO)),av (oG d v l) e=(av l e).map (rS d v)
 | []=>rfl
 | (f,c)::l=>by
  have hc:oG d v ((f,c)::l)=(f,rS d v c)::oG d v l:=by
   obtain⟨k,sz,rows⟩:=c
   cases k<;>first | rfl | (match rows with | []=>rfl | [r]=>rfl | _::_::_=>rfl)
  rw[hc,bQ,bQ,sk d v e l]
  by_cases h:f=e<;>simp[h]
theorem qI (d:Nat)(v:PV):∀ l:List PV,(kD d v l).length=l.length
 | []=>rfl
 | _::l=>by simp[kD,qI d v l]
theorem H9 (d:Nat)(v:PV)(bl:List (Nat × aO)):sH d bl (oG d v (iC bl d)):=by
 intro e b hne hb
 refine⟨rS d v b,?_,(MR d v b).2,(MR d v b).1⟩
 rw[sk,gb,if_neg (Ne.symm hne),hb]
 rfl
theorem iU.kg {I':Ft}(gj:∀ x,I x->I' x){d:Nat}{b0:aO}{pv:PV}{bl:List (Nat × aO)}(jm:av bl d=some b0)(hpl:bG pv=true)(hp:dj w I' pv (val d) bf){cy:List (Nat × aO)}(hE:sH d bl cy)
  {b:aO} {v:Value} {F:Ft} (h:iU w I val bl b v F):iU w I' val cy (rS d pv b) v F:=by
 obtain⟨k,sz,rows⟩:=b
 cases k with
 | arr=>
  obtain⟨e,xs,G,hu,how,hR,hG,hob⟩:=h
  exact⟨e,xs,G,hu,how,hR.frame (bw.refl _ _) gj (bw.refl _ _),hG,hob⟩
 | var=>
  match rows,h with
  | [r],h=>
   obtain⟨g,qF,T,c,hg,hh,hs,hl,h1⟩:=h
   exact⟨g,qF,T,c,hg,hh,hs.kg gj jm hpl hp hE,by rw[qI];exact hl,h1⟩
 | lit=>
  match rows,h with
  | [r],h=>
   obtain⟨g,qF,h0,T,c,hg,hh,hs,hl,h1⟩:=h
   exact⟨g,qF,h0,T,c,hg,hh,hs.kg gj jm hpl hp hE,by rw[qI];exact hl,h1⟩
 | mul=>
  match rows,h with
  | [r],h=>
   obtain⟨g,qF,h0,T,c,hg,hh,hs,hl,h1⟩:=h
   exact⟨g,by rw[qI];exact qF,h0,T,c,hg,hh,hs.kg gj jm hpl hp hE,rfl,h1⟩
theorem bz.freeze (h:bz B W0 I0 I val fs σ a w){d sz:Nat}{rows:List (List PV)}(hd:av σ.bl d=some ⟨.arr,sz,rows⟩):
  eo B W0 I0 {sl:=kD d (.sl sz (ar rows)) σ.sl,bl:=oG d (.sl sz (ar rows)) (iC σ.bl d),hd:=iS σ.hd d} a w:=by
 obtain⟨e,xs,G,hu,how,hR,hG,hob⟩:=h.blocks d _ hd
 have gj:∀ x,I x->I x\/fs d x:=λx hx=>.inl hx
 have hp:dj w (λx=>I x\/fs d x) (.sl sz (ar rows)) (val d) bf:=by
  have:=dj.erase (J:=λx=>I x\/fs d x) gj (dj.ow (w:=w) (I:=I) sz rows (val d) e xs (fs d) G hu how hR hG hob) (λx hx=>.inr hx)
  simpa [Av.erase] using this
 have look:∀ e c,av (oG d (.sl sz (ar rows)) (iC σ.bl d)) e=some c->∃ b,e≠d/\av σ.bl e=some b/\c=rS d (.sl sz (ar rows)) b:=by
  intro e c he
  rw[sk,gb] at he
  by_cases h0:d=e
  ·rw [if_pos h0] at he;cases he
  rw[if_neg h0] at he
  cases hb:av σ.bl e with
  | none=>rw[hb] at he;cases he
  | some b=>rw[hb] at he;exact⟨b,Ne.symm h0,rfl,by simpa using he.symm⟩
 refine⟨λx=>I x\/fs d x,val,fs,{cC:=h.cC.kg gj hd rfl hp (H9 _ _ _),blocks:=λe c he=>?_,bX:=λe e' c c' he lu hne=>?_,dt:=λe c he x hx hi=>?_,new:=λe c he=>?_,lt:=λx hx=>?_,eJ:=λx hx=>?_,below:=h.below,size:=h.size,dP:=λe v he=>?_,defers:=h.defers}⟩
 ·obtain⟨b,_,hb,rfl⟩:=look e c he
  exact(h.blocks e b hb).kg gj hd rfl hp (H9 _ _ _)
 ·obtain⟨b,_,hb,_⟩:=look e c he
  obtain⟨b',_,cP,_⟩:=look e' c' lu
  exact h.bX _ _ _ _ hb cP hne
 ·obtain⟨b,hne,hb,_⟩:=look e c he
  rcases hi with hi | hi
  ·exact h.dt _ _ hb x hx hi
  exact h.bX _ _ _ _ hb hd hne x hx hi
 ·obtain⟨b,_,hb,_⟩:=look e c he;exact h.new _ _ hb
 ·rcases hx with hx | hx
  ·exact h.lt x hx
  exact(h.new d _ hd x hx).2
 ·rcases hx with hx | hx
  ·exact h.eJ x hx
  exact .inr (h.new d _ hd x hx).1
 obtain⟨hne,he⟩:=sh he
 obtain⟨h1,c,hc⟩:=h.dP e v he
 exact⟨h1,_,by show av (oG d _ (iC σ.bl d)) e=_;rw[sk,gb,if_neg (Ne.symm hne),hc];rfl⟩
theorem VZ {v:Value}{bl:List (Nat × aO)}(h:bI w I val bl .zc v):v=.slice none 0 0:=by
 cases h with
 | leaf c v hl h=>cases h;rfl
theorem UG (sz:Nat):yg w I sz [] (.slice none 0 0) bf:=
 ⟨0,[],bf,λr hr=>by simp at hr,⟨by simp,.inl ⟨rfl,rfl⟩⟩,.nil _,λ_ h=>h,λb hb=>by cases hb⟩
theorem bz.KN (h:bz B W0 I0 I val fs σ a w){d:Nat}(hd:av σ.bl d=none)(sz:Nat):
  bz B W0 I0 I (eD val d (.slice none 0 0)) (eD fs d bf) {σ with bl:=(d,⟨.arr,sz,[]⟩)::σ.bl} a w:=
 h.qu hd (UG sz) (λx hx=>hx.elim) (λx hx=>hx.elim) (λx hx=>hx.elim)
theorem aG.xo {bl:List (Nat × aO)}:∀{l:List PV} {vs:List Value},aG w I val bl l vs->∀(k:Nat) {c:PV},(∀ v,bI w I val bl (bM l k) v->bI w I val bl c v)->aG w I val bl (bT l k c) vs
 | _,_,.nil,_,_,_=>.nil
 | _,_,.cons c l v vs h t,0,_,hc=>.cons _ _ _ _ (hc v h) t
 | _,_,.cons c l v vs h t,k+1,_,hc=>.cons _ _ _ _ h (t.xo k hc)
theorem Gq {d sz:Nat}{bl:List (Nat × aO)}(hd:av bl d=some ⟨.arr,sz,[]⟩)(hv:val d=.slice none 0 0){v:Value}(h:bI w I val bl .zc v):bI w I val bl (.own d) v:=by
 rw[VZ h,<- hv]
 exact .own d _ hd (by intro h;cases h)
theorem bz.UH (h:bz B W0 I0 I val fs σ a w){k d:Nat}(hz:bM σ.sl k=.zc)(hd:av σ.bl d=none)(sz:Nat):eo B W0 I0 {σ with sl:=bT σ.sl k (.own d),bl:=(d,⟨.arr,sz,[]⟩)::σ.bl} a w:=by
 have h1:=h.KN hd sz
 refine⟨I,_,_,{h1 with cC:=h1.cC.xo k λv hv=>?_}⟩
 have qF:bI w I (eD val d (.slice none 0 0)) ((d,⟨.arr,sz,[]⟩)::σ.bl) (bM σ.sl k) v:=hv
 rw[hz] at qF
 exact Gq (by rw[bQ,if_pos rfl]) (cb _ _ _) qF
theorem bz.UI (h:bz B W0 I0 I val fs σ a w){b j d n:Nat}{r:List PV}(hb:av σ.bl b=some ⟨.var,n,[r]⟩)(hz:bM r j=.zc)(hd:av σ.bl d=none)(sz:Nat):
  eo B W0 I0 {σ with bl:=(d,⟨.arr,sz,[]⟩)::cg σ.bl b ⟨.var,n,[bT r j (.own d)]⟩} a w:=by
 have h1:=h.KN hd sz
 have hne:b≠d:=by rintro rfl;rw[hd] at hb;cases hb
 have hE:Ext ((d,⟨.arr,sz,[]⟩)::σ.bl) ((d,⟨.arr,sz,[]⟩)::cg σ.bl b ⟨.var,n,[bT r j (.own d)]⟩) (eD val d (.slice none 0 0)) (eD val d (.slice none 0 0)):=by
  intro e c he
  refine⟨?_,rfl⟩
  rw[bQ] at he ⊢
  by_cases h0:d=e
  ·rw [if_pos h0] at he ⊢;exact⟨c,he,rfl,rfl⟩
  rw[if_neg h0] at he ⊢
  rw[ct]
  by_cases h2:b=e
  ·subst h2
   rw[hb] at he
   cases he
   rw[if_pos rfl]
   exact⟨_,rfl,rfl,rfl⟩
  rw[if_neg h2];exact⟨c,he,rfl,rfl⟩
 have look:∀ e c,av ((d,⟨.arr,sz,[]⟩)::cg σ.bl b ⟨.var,n,[bT r j (.own d)]⟩) e=some c->∃ c',av ((d,⟨.arr,sz,[]⟩)::σ.bl) e=some c'/\((e=b/\c=⟨.var,n,[bT r j (.own d)]⟩/\c'=⟨.var,n,[r]⟩)\/c=c'):=by
  intro e c he
  rw[bQ] at he ⊢
  by_cases h0:d=e
  ·rw [if_pos h0] at he ⊢;exact⟨c,he,.inr rfl⟩
  rw[if_neg h0] at he ⊢
  rw[ct] at he
  by_cases h2:b=e
  ·subst h2
   rw[if_pos rfl] at he
   exact⟨_,hb,.inl ⟨rfl,by simpa using he.symm,rfl⟩⟩
  rw[if_neg h2] at he;exact⟨c,he,.inr rfl⟩
 refine⟨I,eD val d (.slice none 0 0),eD fs d bf,{cC:=h1.cC.frame (bw.refl _ _) (λ_ h=>h) hE,blocks:=λe c he=>?_,bX:=λe e' c c' he lu hne=>?_,dt:=λe c he=>?_,new:=λe c he=>?_,lt:=h.lt,eJ:=h.eJ,below:=h.below,size:=h.size,dP:=λe v he=>?_,defers:=h.defers}⟩
 ·obtain⟨c',mz,⟨rfl,rfl,rfl⟩ | rfl⟩:=look e c he
  ·obtain⟨g,qF,T,cc,hg,hh,hs,hl,h1'⟩:=h1.blocks _ _ mz
   refine⟨g,qF,T,cc,hg,hh,?_,by rw[kK];exact hl,h1'⟩
   refine(hs.frame (bw.refl _ _) (λ_ h=>h) hE).xo j λv hv=>?_
   rw[hz] at hv
   exact Gq (by rw[bQ,if_pos rfl]) (cb _ _ _) hv
  exact(h1.blocks e c mz).frame (bw.refl _ _) (λ_ h=>h) hE (bw.refl _ _)
 ·obtain⟨b1,gg,_⟩:=look e c he
  obtain⟨b2,sS,_⟩:=look e' c' lu
  exact h1.bX _ _ _ _ gg sS hne
 ·obtain⟨b1,gg,_⟩:=look e c he;exact h1.dt _ _ gg
 ·obtain⟨b1,gg,_⟩:=look e c he;exact h1.new _ _ gg
 obtain⟨h2,c,hc⟩:=h1.dP e v he
 obtain⟨⟨c',mz,_⟩,_⟩:=hE e c hc
 exact⟨h2,c',mz⟩
theorem V0 {bl:List (Nat × aO)}{d:Nat}{b:aO}(hd:av bl d=some b)(e:Nat):av ((d,b)::iC bl d) e=av bl e:=by
 show(bif nq d e then some b else av (iC bl d) e)=_
 cases hde:nq d e with
 | true=>rw[<- eZ hde,hd];rfl
 | false=>
  have hne:¬ d=e:=λh=>by subst h;rw[wY] at hde;cases hde
  rw[gb,if_neg hne];rfl
mutual
theorem bI.mq {bl:List (Nat × aO)}{d sz:Nat}{rows:List (List PV)}(hd:av bl d=some ⟨.lit,sz,rows⟩):∀{c:PV} {v:Value},bI w I val bl c v->bI w I val (cg bl d ⟨.arr,sz,rows⟩) c v
 | _,_,.leaf c v hl h=>.leaf c v hl h
 | _,_,.own e b hb hk=>by
  by_cases he:d=e
  ·subst he;exact .own d ⟨.arr,sz,rows⟩ (by rw[ct,if_pos rfl]) (by intro h;cases h)
  exact .own e b (by rw[ct,if_neg he];exact hb) hk
 | _,_,.pt e i j b g hb hg=>by
  by_cases he:d=e
  ·subst he
   rw[hd] at hb;cases hb
   exact .pt d i j ⟨.arr,sz,rows⟩ g (by rw[ct,if_pos rfl]) hg
  exact .pt e i j b g (by rw[ct,if_neg he];exact hb) hg
 | _,_,.rd cs a vs hb hs hc hr=>.rd cs a vs hb hs hc hr
 | _,_,.agg cs vs h=>.agg cs vs (aG.mq hd h)
 | _,_,.aw cs vs h=>.aw cs vs (aG.mq hd h)
 | _,_,.fn f cs vs h=>.fn f cs vs (aG.mq hd h)
 | _,_,.aa v=>.aa v
theorem aG.mq {bl:List (Nat × aO)}{d sz:Nat}{rows:List (List PV)}(hd:av bl d=some ⟨.lit,sz,rows⟩):∀{l:List PV} {vs:List Value},aG w I val bl l vs->aG w I val (cg bl d ⟨.arr,sz,rows⟩) l vs
 | _,_,.nil=>.nil
 | _,_,.cons c l v vs h t=>.cons c l v vs (bI.mq hd h) (aG.mq hd t)
end
theorem aG.vB {bl:List (Nat × aO)}:∀{l:List PV} {vs:List Value},aG w I val bl l vs->eK bG l=true->bE w I l vs bf
 | _,_,.nil,_=>.nil _
 | _,_,.cons c l v vs h t,ha=>by
  simp only[eK,aaR] at ha
  have hv:dj w I c v bf:=by
   cases h with
   | leaf c v hl h=>exact h
   | own d b hb hk=>simp[bG] at ha
   | pt d i j b g hb hg=>simp[bG] at ha
   | rd cs a vs hb hs hc hr=>simp[bG] at ha
   | agg cs vs h=>simp[bG] at ha
   | aw cs vs h=>simp[bG] at ha
   | fn f cs vs h=>simp[bG] at ha
   | aa v=>simp[bG] at ha
  exact .cons _ _ _ _ _ _ _ hv (aG.vB t ha.2) (λ_ h=>h.elim) (λ_ h=>h.elim) (λ_ h=>h.elim)
theorem iU.mq {bl:List (Nat × aO)}{d sz:Nat}{rows:List (List PV)}(hd:av bl d=some ⟨.lit,sz,rows⟩){b:aO}{v:Value}{F:Ft}(h:iU w I val bl b v F):iU w I val (cg bl d ⟨.arr,sz,rows⟩) b v F:=by
 have key:∀{fI:Nat} {r:List PV} {g:Nat},mg w I val bl fI r g F->mg w I val (cg bl d ⟨.arr,sz,rows⟩) fI r g F:=by
  rintro fI r g ⟨T,c,h1,h2,h3,h4,h5⟩;exact⟨T,c,h1,h2,h3.mq hd,h4,h5⟩
 obtain⟨k,s,rs⟩:=b
 cases k with
 | arr=>exact h
 | var=>match rs,h with | [r],⟨g,h1,h2⟩=>exact⟨g,h1,key h2⟩
 | lit=>match rs,h with | [r],⟨g,h1,h0,h2⟩=>exact⟨g,h1,h0,key h2⟩
 | mul=>match rs,h with | [r],⟨g,h1,h0,h2⟩=>exact⟨g,h1,h0,key h2⟩
theorem bz.mq (h:bz B W0 I0 I val fs σ a w){d sz:Nat}{r:List PV}(hd:av σ.bl d=some ⟨.lit,sz,[r]⟩)(hl:eK bG r=true):
  bz B W0 I0 I val fs {σ with bl:=cg σ.bl d ⟨.arr,sz,[r]⟩} a w:=by
 have look:∀ e c,av (cg σ.bl d ⟨.arr,sz,[r]⟩) e=some c->∃ b,av σ.bl e=some b:=by
  intro e c he
  rw[ct] at he
  by_cases h0:d=e
  ·subst h0;exact⟨_,hd⟩
  rw[if_neg h0] at he;exact⟨c,he⟩
 refine{cC:=h.cC.mq hd,blocks:=λe c he=>?_,bX:=λe e' c c' he lu hne=>?_,dt:=λe c he=>?_,new:=λe c he=>?_,lt:=h.lt,eJ:=h.eJ,below:=h.below,size:=h.size,dP:=λe v he=>?_,defers:=h.defers}
 ·have he:av (cg σ.bl d ⟨.arr,sz,[r]⟩) e=some c:=he
  rw[ct] at he
  by_cases h0:d=e
  ·subst h0
   rw[if_pos rfl] at he;cases he
   obtain⟨g,hv,hp,T,c,h1,h2,h3,h4,h5⟩:=h.blocks d _ hd
   have hlen:c.toList.length=sz:=by rw[h3.len,h4]
   refine⟨T,c.toList,bf,by simpa using h4,⟨by simp[hlen],.inr ⟨g,1,c,by rw[hv];rfl,Nat.zero_le _,h2,Nat.le_refl _,by decide,?_,?_⟩⟩,by simpa using h3.vB hl,λ_ hh=>hh.elim,?_⟩
   ·rw [Nat.one_mul,<- hlen];simp
   ·rw [List.length_singleton,Nat.one_mul,<- hlen];exact List.take_length
   intro b hb
   rw[hv] at hb
   simp only[Value.ownBlock] at hb
   cases hb
   exact⟨h1,λhh=>hh.elim⟩
  rw[if_neg h0] at he
  exact(h.blocks e c he).mq hd
 ·obtain⟨b,hb⟩:=look e c he
  obtain⟨b',cP⟩:=look e' c' lu
  exact h.bX _ _ _ _ hb cP hne
 ·obtain⟨b,hb⟩:=look e c he;exact h.dt _ _ hb
 ·obtain⟨b,hb⟩:=look e c he;exact h.new _ _ hb
 obtain⟨h1,c,hc⟩:=h.dP e v he
 refine⟨h1,?_⟩
 show ∃ b,av (cg σ.bl d ⟨.arr,sz,[r]⟩) e=some b
 rw[ct]
 by_cases h0:d=e
 ·exact⟨_,by rw[if_pos h0]⟩
 exact⟨c,by rw[if_neg h0];exact hc⟩
theorem EL (h:bz B W0 I0 I val fs σ a w){c c':PV}{v:Value}(hc:bI w I val σ.bl c v)(ha:zX σ c=some (c',aA)):
  ∃ F,bz B W0 I0 I val fs aA a w/\jD w I c' v F/\(∀ x,F x->∃ d b,av σ.bl d=some b/\av aA.bl d=none/\fs d x)/\Sub σ.bl aA.bl:=by
 have abs:dD σ c=some (c',aA)->∃ F,bz B W0 I0 I val fs aA a w/\jD w I c' v F/\(∀ x,F x->∃ d b,av σ.bl d=some b/\av aA.bl d=none/\fs d x)/\Sub σ.bl aA.bl:=by
  intro ha
  obtain⟨F,h1,h2,h3,h4⟩:=CJ h hc ha
  exact⟨F,h1,.one _ _ _ h2,h3,h4⟩
 unfold zX at ha
 split at ha
 ·rename_i cs
  split at ha
  case h_2=>cases ha
  rename_i cx aR habs
  simp only[aaQ.injEq,Prod.mk.injEq] at ha
  obtain⟨rfl,rfl⟩:=ha
  cases hc with
  | leaf c v hl h=>cases hl
  | agg cs vs hsl=>
   obtain⟨F,h1,h2,h3,h4,_⟩:=lO h hsl habs
   exact⟨F,h1,.agg _ _ _ h2,h3,h4⟩
 ·rename_i d
  split at ha
  ·rename_i sz r hb
   split at ha
   case h_2=>cases ha
   rename_i r' aR habs
   simp only[aaQ.injEq,Prod.mk.injEq] at ha
   obtain⟨rfl,rfl⟩:=ha
   have hvd:v=val d:=by cases hc with
    | leaf c v hl h=>cases hl
    | own d b hb hk=>rfl
   subst hvd
   obtain⟨g,hvd,_,T',c',hfg,hh,hsl,hrl,_⟩:=h.blocks d _ hb
   obtain⟨F,iW,zm,hgone,hsub,hclen⟩:=lO (h.drop d) hsl habs
   have hF:∀ x,F x->∃ d1 b1,d1≠d/\av σ.bl d1=some b1/\av aR.bl d1=none/\fs d1 x:=by
    intro x hx
    obtain⟨d1,c1,cN,ej,iI⟩:=hgone x hx
    obtain⟨c0,AF,_⟩:=rB σ.bl d d1 c1 cN
    refine⟨d1,c0,?_,AF,ej,iI⟩
    rintro rfl
    have:av (fX d1 (iC σ.bl d1)) d1=some c1:=cN
    rw[gw,gb,if_pos rfl] at this
    cases this
   have hlen:c'.toList.length=sz:=by rw[hsl.len,hrl]
   refine⟨λx=>x=g\/F x,iW,?_,λx hx=>?_,(rB σ.bl d).trans hsub⟩
   ·rw [hvd]
    refine .one _ _ _ (.ow sz [r'] _ T' c'.toList _ F (λr0 dQ=>?_) ⟨by simp[hlen],.inr ⟨g,1,c',rfl,Nat.zero_le _,hh,Nat.le_refl _,?_,?_,?_⟩⟩ (by simpa using zm) (λx hx=>.inr hx) (λb cP=>?_))
    ·simp at dQ;subst dQ;rw[hclen];exact hrl
    ·decide
    ·rw [Nat.one_mul,<- hlen];simp
    ·rw [List.length_singleton,Nat.one_mul,<- hlen];exact List.take_length
    have hbg:b=g:=by simpa [Value.ownBlock] using cP.symm
    subst hbg
    refine⟨.inl rfl,λhx=>?_⟩
    obtain⟨d1,b1,hne,gg,_,iI⟩:=hF b hx
    exact h.bX d1 d _ _ gg hb hne b iI hfg
   rcases hx with rfl | hx
   ·refine⟨d,_,hb,?_,hfg⟩
    cases hq:av aR.bl d with
    | none=>rfl
    | some q=>
     obtain⟨q',pV,_⟩:=hsub d q hq
     have:av (fX d (iC σ.bl d)) d=some q':=pV
     rw[gw,gb,if_pos rfl] at this
     cases this
   obtain⟨d1,b1,_,gg,ej,iI⟩:=hF x hx
   exact⟨d1,b1,gg,ej,iI⟩
  exact abs ha
 exact abs ha
theorem SA (vs:List Value)(k:Nat)(d:Value):vs.set k (vs.getD k d)=vs:=by
 apply List.ext_getElem?
 intro i
 rw[List.getElem?_set]
 by_cases h:k=i
 ·subst h
  by_cases hl:k < vs.length
  ·simp [hl]
  simp[hl]
 simp[h]
theorem bz.Px (h:bz B W0 I0 I val fs σ a w){k:Nat}{r:PV}(hc:zX σ (bM σ.sl k)=some (r,aA)):eo B W0 I0 {aA with sl:=bT aA.sl k (pe r)} a w:=by
 obtain⟨F,hS,hR,hF,hsub⟩:=EL h (h.cC.get k undef) hc
 have h2:=hS.J7 (I':=λx=>I x\/F x) (λx hx=>.inl hx) (λx hx=>by
  rcases hx with hx | hx
  ·exact h.lt x hx
  ·obtain⟨d,b,hb,_,hf⟩:=hF x hx;exact(h.new d b hb x hf).2) (λx hx=>by
  rcases hx with hx | hx
  ·exact h.eJ x hx
  ·obtain⟨d,b,hb,_,hf⟩:=hF x hx;exact .inr (h.new d b hb x hf).1) (λe b he x hx hi=>by
  rcases hi with hi | hi
  ·exact hS.dt e b he x hx hi
  obtain⟨d,c,hb,hn,hf⟩:=hF x hi
  obtain⟨b',cP,_⟩:=hsub e b he
  have hne:e≠d:=λhed=>by subst hed;rw[hn] at he;cases he
  exact h.bX e d _ _ cP hb hne x hx hf)
 refine⟨_,_,_,{h2 with cC:= ?_}⟩
 have h3:=h2.cC.set k (yy (bl:=aA.bl) (val:=val) (J:=I) (F:=F) (λx hx=>.inl hx) (λx hx=>.inr hx) hR)
 rwa [SA] at h3
theorem bz.Ef (h:bz B W0 I0 I val fs σ a w){k j d:Nat}{cs:List PV}(hk:bM σ.sl k=.agg cs)(hz:bM cs j=.zc)(hd:av σ.bl d=none)(sz:Nat):
  eo B W0 I0 {σ with sl:=bT σ.sl k (.agg (bT cs j (.own d))),bl:=(d,⟨.arr,sz,[]⟩)::σ.bl} a w:=by
 have h1:=h.KN hd sz
 refine⟨I,_,_,{h1 with cC:=h1.cC.xo k λv hv=>?_}⟩
 have qF:bI w I (eD val d (.slice none 0 0)) ((d,⟨.arr,sz,[]⟩)::σ.bl) (bM σ.sl k) v:=hv
 rw[hk] at qF
 cases qF with
 | leaf c v hl h=>cases hl
 | agg cs vs hsl=>
  refine .agg _ _ (hsl.xo j λu hu=>?_)
  rw[hz] at hu
  exact Gq (by rw[bQ,if_pos rfl]) (cb _ _ _) hu
theorem bE.fix {sz:Nat}:∀{l:List PV} {vs:List Value} {F:Ft},bE w I l vs F->bE w I (l.map (fixC sz)) vs F
 | _,_,_,.nil F=>.nil F
 | _,_,_,.cons c l v vs F G H h t hF hG d=>by
  have hv:dj w I (fixC sz c) v F:=by
   by_cases hc:c=.zc
   ·subst hc
    cases h
    exact .ow sz [] _ 0 [] _ bf (λr hr=>by cases hr) (iz.nil w 0 0 sz) (.nil _) (λ_ hh=>hh.elim) (λb hb=>by cases hb)
   have:fixC sz c=c:=by cases c<;>first | rfl | exact absurd rfl hc
   rw[this];exact h
  exact .cons _ _ _ _ F G H hv (bE.fix t) hF hG d
theorem Qo (sz:Nat)(rows:List (List PV)):(pc sz rows).flatten=rows.flatten.map (fixC sz):=by
 unfold pc;induction rows with
 | nil=>rfl
 | cons r l ih=>simp only[List.map_cons,List.flatten_cons,List.map_append,ih]
theorem bz.zY (h:bz B W0 I0 I val fs σ a w){d s sz:Nat}{rows:List (List PV)}(hd:av σ.bl d=some ⟨.arr,s,rows⟩):bz B W0 I0 I val fs {σ with bl:=cg σ.bl d ⟨.arr,s,pc sz rows⟩} a w:=by
 have hE:Ext σ.bl (cg σ.bl d ⟨.arr,s,pc sz rows⟩) val val:=by
  intro e b he
  refine⟨?_,rfl⟩
  by_cases h0:d=e
  ·subst h0;rw[hd] at he;cases he;exact⟨⟨.arr,s,pc sz rows⟩,by rw[ct,if_pos rfl],rfl,rfl⟩
  exact⟨b,by rw[ct,if_neg h0];exact he,rfl,rfl⟩
 have look:∀ e c,av (cg σ.bl d ⟨.arr,s,pc sz rows⟩) e=some c->∃ b,av σ.bl e=some b:=by
  intro e c he
  rw[ct] at he
  by_cases h0:d=e
  ·subst h0;exact⟨_,hd⟩
  rw[if_neg h0] at he;exact⟨c,he⟩
 refine{cC:=aG.frame (bw.refl _ _) (λ_ h=>h) hE h.cC,blocks:=λe c he=>?_,bX:=λe e' c c' he lu hne=>?_,dt:=λe c he=>?_,new:=λe c he=>?_,lt:=h.lt,eJ:=h.eJ,below:=h.below,size:=h.size,dP:=λe v he=>?_,defers:=h.defers}
 ·have he:av (cg σ.bl d ⟨.arr,s,pc sz rows⟩) e=some c:=he
  rw[ct] at he
  by_cases h0:d=e
  ·subst h0
   rw[if_pos rfl] at he;cases he
   obtain⟨e0,xs,G,hu,how,hR,hG,hob⟩:=h.blocks d _ hd
   refine⟨e0,xs,G,λr hr=>?_,by rw[show(pc sz rows).length=rows.length by simp[pc]];exact how,by rw[Qo];exact hR.fix,hG,hob⟩
   obtain⟨r0,dQ,rfl⟩:=List.mem_map.1 hr
   rw[List.length_map];exact hu r0 dQ
  rw[if_neg h0] at he
  exact(h.blocks e c he).frame (bw.refl _ _) (λ_ h=>h) hE (bw.refl _ _)
 ·obtain⟨b,hb⟩:=look e c he
  obtain⟨b',cP⟩:=look e' c' lu
  exact h.bX _ _ _ _ hb cP hne
 ·obtain⟨b,hb⟩:=look e c he;exact h.dt _ _ hb
 ·obtain⟨b,hb⟩:=look e c he;exact h.new _ _ hb
 obtain⟨h1,c,hc⟩:=h.dP e v he
 obtain⟨⟨b',cP,_⟩,_⟩:=hE e c hc
 exact⟨h1,b',cP⟩
theorem bz.Mt (h:bz B W0 I0 I val fs σ a w){d s:Nat}{rows:List (List PV)}(hd:av σ.bl d=some ⟨.arr,s,rows⟩):eo B W0 I0 {σ with bl:=cg σ.bl d ⟨.arr,s,ar rows⟩} a w:=by
 obtain⟨e0,xs,G,hu,how,hR,hG,hob⟩:=h.blocks d _ hd
 have hlen:∀ l:List (List PV),(ar l).length=l.length:=by
  intro l
  induction l with
  | nil=>rfl
  | cons r l ih=>simp[ar,ih]
 have hll:∀ l:List PV,(dh l).length=l.length:=by
  intro l
  induction l with
  | nil=>rfl
  | cons r l ih=>simp[dh,ih]
 have hmem:∀(l:List (List PV)) r,r∈ar l->∃ r0∈l,r=dh r0:=by
  intro l
  induction l with
  | nil=>intro r hr;cases hr
  | cons q l ih=>
   intro r hr
   rcases List.mem_cons.1 hr with rfl | hr
   ·exact⟨q,List.mem_cons_self ..,rfl⟩
   obtain⟨r0,h1,h2⟩:=ih r hr;exact⟨r0,List.mem_cons_of_mem _ h1,h2⟩
 have hE:Ext σ.bl (cg σ.bl d ⟨.arr,s,ar rows⟩) val val:=by
  intro e b he
  refine⟨?_,rfl⟩
  by_cases h0:d=e
  ·subst h0;rw[hd] at he;cases he;exact⟨⟨.arr,s,ar rows⟩,by rw[ct,if_pos rfl],rfl,rfl⟩
  exact⟨b,by rw[ct,if_neg h0];exact he,rfl,rfl⟩
 have look:∀ e c,av (cg σ.bl d ⟨.arr,s,ar rows⟩) e=some c->(e=d/\c=⟨.arr,s,ar rows⟩)\/(e≠d/\av σ.bl e=some c):=by
  intro e c he
  rw[ct] at he
  by_cases h0:d=e
  ·rw [if_pos h0] at he;exact .inl ⟨h0.symm,by simpa using he.symm⟩
  rw[if_neg h0] at he;exact .inr ⟨Ne.symm h0,he⟩
 have gj:∀ x,I x->I x\/G x:=λx hx=>.inl hx
 have f1:eD fs d (λx=>fs d x/\¬ G x) d=λx=>fs d x/\¬ G x:=cb _ _ _
 have f2:∀ e,e≠d->eD fs d (λx=>fs d x/\¬ G x) e=fs e:=λe he=>di _ _ he
 refine⟨λx=>I x\/G x,val,eD fs d (λx=>fs d x/\¬ G x),{cC:=aG.frame (bw.refl _ _) gj hE h.cC,blocks:=λe c he=>?_,bX:=λe e' c c' he lu hne x hx aX=>?_,dt:=λe c he x hx hi=>?_,new:=λe c he x hx=>?_,lt:=λx hx=>?_,eJ:=λx hx=>?_,below:=h.below,size:=h.size,dP:=λe v he=>?_,defers:=h.defers}⟩
 ·rcases look e c he with ⟨rfl,rfl⟩ | ⟨h0,h1⟩
  ·rw [f1]
   refine⟨e0,xs,bf,λr hr=>?_,by rw[hlen];exact how,by rw[rD];exact hR.erase gj (λx hx=>.inr hx),λ_ h=>h.elim,λb hb=>⟨⟨(hob b hb).1,(hob b hb).2⟩,λh=>h⟩⟩
   obtain⟨r0,h1,rfl⟩:=hmem _ _ hr
   rw[hll];exact hu r0 h1
  rw[f2 e h0]
  exact(h.blocks e c h1).frame (bw.refl _ _) gj hE (bw.refl _ _)
 ·rcases look e c he with ⟨rfl,rfl⟩ | ⟨h0,h1⟩<;>rcases look e' c' lu with ⟨rfl,rfl⟩ | ⟨p0,p1⟩
  ·exact hne rfl
  ·rw [f1] at hx;rw[f2 e' p0] at aX;exact h.bX _ _ _ _ hd p1 (Ne.symm p0) x hx.1 aX
  ·rw [f2 e h0] at hx;rw[f1] at aX;exact h.bX _ _ _ _ h1 hd h0 x hx aX.1
  rw[f2 e h0] at hx;rw[f2 e' p0] at aX;exact h.bX _ _ _ _ h1 p1 hne x hx aX
 ·rcases look e c he with ⟨rfl,rfl⟩ | ⟨h0,h1⟩
  ·rw [f1] at hx
   rcases hi with hi | hi
   ·exact h.dt _ _ hd x hx.1 hi
   exact hx.2 hi
  rw[f2 e h0] at hx
  rcases hi with hi | hi
  ·exact h.dt _ _ h1 x hx hi
  exact h.bX _ _ _ _ h1 hd h0 x hx (hG x hi)
 ·rcases look e c he with ⟨rfl,rfl⟩ | ⟨h0,h1⟩
  ·rw [f1] at hx;exact h.new _ _ hd x hx.1
  rw[f2 e h0] at hx;exact h.new _ _ h1 x hx
 ·rcases hx with hx | hx
  ·exact h.lt x hx
  exact(h.new d _ hd x (hG x hx)).2
 ·rcases hx with hx | hx
  ·exact h.eJ x hx
  exact .inr (h.new d _ hd x (hG x hx)).1
 obtain⟨h1,c,hc⟩:=h.dP e v he
 obtain⟨⟨b',cP,_⟩,_⟩:=hE e c hc
 exact⟨h1,b',cP⟩
def yA (d e:Nat):aO->aO
 | ⟨.arr,sz,rows⟩=>⟨.arr,sz,rows⟩
 | ⟨k,sz,[r]⟩=>⟨k,sz,[sD d e r]⟩
 | ⟨k,sz,_⟩=>⟨k,sz,[]⟩
theorem Qp (d e:Nat)(b:aO):(yA d e b).k=b.k/\(yA d e b).sz=b.sz:=by
 obtain⟨k,sz,rows⟩:=b
 cases k<;>(unfold yA;split<;>simp_all)
theorem Qq (d e x:Nat)(b:aO)(l:List (Nat × aO)):sE d e ((x,b)::l)=(sC d e x,yA d e b)::sE d e l:=by
 obtain⟨k,sz,rows⟩:=b
 cases k with
 | arr=>rfl
 | var=>cases rows with | nil=>rfl | cons r t=>cases t<;>rfl
 | lit=>cases rows with | nil=>rfl | cons r t=>cases t<;>rfl
 | mul=>cases rows with | nil=>rfl | cons r t=>cases t<;>rfl
theorem xp (d e x:Nat):sC d e x=if x=d then e else x:=by
 unfold sC nq
 by_cases h:x=d
 ·subst h;simp
 rw[if_neg h,show(x == d)=false from by simpa using h];rfl
theorem yB {d e:Nat}(x:Nat):∀{l:List (Nat × aO)},av l e=none->av (sE d e l) x=if x=e then (av l d).map (yA d e) else if x=d then none else (av l x).map (yA d e)
 | [],_=>by
  unfold sE av
  split
  ·rfl
  split<;>rfl
 | (y,b)::l,he=>by
  rw[bQ] at he
  by_cases hye:y=e
  ·rw [if_pos hye] at he;cases he
  rw[if_neg hye] at he
  have ih:=yB (d:=d) x he
  rw[Qq,bQ,ih,bQ,bQ,xp]
  by_cases hyd:y=d
  ·subst hyd
   simp only[if_true]
   by_cases hxe:x=e
   ·subst hxe;simp
   rw[if_neg (Ne.symm hxe),if_neg hxe,if_neg hxe]
   by_cases hxd:x=y
   ·subst hxd;simp
   rw[if_neg hxd,if_neg hxd,if_neg (Ne.symm hxd)]
  rw[if_neg hyd]
  by_cases hxe:x=e
  ·subst hxe;rw[if_neg hye,if_pos rfl,if_pos rfl,if_neg hyd]
  rw[if_neg hxe,if_neg hxe]
  by_cases hxd:x=d
  ·subst hxd;rw[if_neg hyd,if_pos rfl,if_pos rfl]
  rw[if_neg hxd,if_neg hxd]
  by_cases hyx:y=x
  ·subst hyx;rw[if_pos rfl,if_pos rfl];rfl
  rw[if_neg hyx,if_neg hyx]
def TN (d e:Nat)(bl cy:List (Nat × aO))(val cr:Nat->Value):Prop:=
 ∀ x b,av bl x=some b->(∃ b',av cy (sC d e x)=some b'/\b'.k=b.k/\b'.sz=b.sz)/\cr (sC d e x)=val x
mutual
theorem bI.lr {d e:Nat}{bl cy:List (Nat × aO)}{cr:Nat->Value}(hE:TN d e bl cy val cr):∀{c:PV} {v:Value},bI w I val bl c v->bI w I cr cy (RO d e c) v
 | _,_,.leaf c v hl h=>by
  have:RO d e c=c:=by cases c<;>first | rfl | cases hl
  rw[this];exact .leaf c v hl h
 | _,_,.own x b hb hk=>by
  obtain⟨⟨b',cP,jl,_⟩,hv⟩:=hE x b hb
  rw[<- hv]
  exact .own _ b' cP (by rw[jl];exact hk)
 | _,_,.pt x i j b g hb hg=>by
  obtain⟨⟨b',cP,_,hs⟩,hv⟩:=hE x b hb
  rw[<- hs]
  exact .pt _ i j b' g cP (by rw[hv];exact hg)
 | _,_,.rd cs a vs hb hs hc hr=>.rd cs a vs hb hs hc hr
 | _,_,.agg cs vs h=>.agg _ vs (aG.lr hE h)
 | _,_,.aw cs vs h=>.aw _ vs (aG.lr hE h)
 | _,_,.fn f cs vs h=>.fn f _ vs (aG.lr hE h)
 | _,_,.aa v=>.aa v
theorem aG.lr {d e:Nat}{bl cy:List (Nat × aO)}{cr:Nat->Value}(hE:TN d e bl cy val cr):∀{l:List PV} {vs:List Value},aG w I val bl l vs->aG w I cr cy (sD d e l) vs
 | _,_,.nil=>.nil
 | _,_,.cons c l v vs h t=>.cons _ _ v vs (bI.lr hE h) (aG.lr hE t)
end
theorem rT (d e:Nat):∀ l:List PV,(sD d e l).length=l.length
 | []=>rfl
 | _::l=>by simp[sD,rT d e l]
theorem iU.lr {d e:Nat}{bl cy:List (Nat × aO)}{cr:Nat->Value}(hE:TN d e bl cy val cr){b:aO}{v:Value}{F:Ft}(h:iU w I val bl b v F):iU w I cr cy (yA d e b) v F:=by
 have key:∀{fI:Nat} {r:List PV} {g:Nat},mg w I val bl fI r g F->mg w I cr cy fI (sD d e r) g F:=by
  rintro fI r g ⟨T,c,h1,h2,h3,h4,h5⟩;exact⟨T,c,h1,h2,h3.lr hE,by rw[rT];exact h4,h5⟩
 obtain⟨k,s,rs⟩:=b
 cases k with
 | arr=>exact h
 | var=>match rs,h with | [r],⟨g,h1,h2⟩=>exact⟨g,h1,key h2⟩
 | lit=>match rs,h with | [r],⟨g,h1,h0,h2⟩=>exact⟨g,h1,h0,key h2⟩
 | mul=>match rs,h with | [r],⟨g,h1,h0,h2⟩=>exact⟨g,by rw[rT];exact h1,h0,by have:=key h2;rw[rT];exact this⟩
theorem bz.lr (h:bz B W0 I0 I val fs σ a w){d e:Nat}{b0:aO}(hd:av σ.bl d=some b0)(he:av σ.bl e=none)(hh:hY σ.hd d=none):
    eo B W0 I0 {σ with sl:=sD d e σ.sl,bl:=sE d e σ.bl} a w:=by
  have hne:d≠e:=λhde=>by subst hde;rw[hd] at he;cases he
  have hE:TN d e σ.bl (sE d e σ.bl) val (eD val e (val d)):=by
    intro x b hx
    rw[xp,yB _ he]
    by_cases hxd:x=d
    · subst hxd
      rw[if_pos rfl,if_pos rfl,hx]
      exact⟨⟨_,rfl,Qp _ _ _⟩,by simp[eD]⟩
    · rw[if_neg hxd]
      have hxe:x≠e:=λhxe=>by subst hxe;rw[hx] at he;cases he
      rw[if_neg hxe,if_neg hxd,hx]
      exact⟨⟨_,rfl,Qp _ _ _⟩,by simp[eD,hxe]⟩
  -- where a block comes from
  have look:∀ x c,av (sE d e σ.bl) x=some c->∃ y b,av σ.bl y=some b/\c=yA d e b/\x=sC d e y/\x≠d:=by
    intro x c hx
    rw[yB _ he] at hx
    by_cases hxe:x=e
    · rw[if_pos hxe,hd] at hx;cases hx
      exact⟨d,b0,hd,rfl,by rw[xp,if_pos rfl];exact hxe,λhxd=>hne (hxd.symm.trans hxe)⟩
    · rw[if_neg hxe] at hx
      by_cases hxd:x=d
      · rw[if_pos hxd] at hx;cases hx
      · rw[if_neg hxd] at hx
        cases hb:av σ.bl x with
        | none=>rw[hb] at hx;cases hx
        | some b=>rw[hb] at hx;cases hx;exact⟨x,b,hb,rfl,by rw[xp,if_neg hxd],hxd⟩
  have hfs:∀ y b,av σ.bl y=some b->eD fs e (fs d) (sC d e y)=fs y:=by
    intro y b hy
    rw[xp]
    by_cases hyd:y=d
    · subst hyd;simp[eD]
    · have hye:y≠e:=λhye=>by subst hye;rw[hy] at he;cases he
      simp[eD,hyd,hye]
  refine⟨I,eD val e (val d),eD fs e (fs d),{cC:=h.cC.lr hE,blocks:=λx c hx=>?_,bX:=λx x' c c' hx aX hxx=>?_,dt:=λx c hx=>?_,new:=λx c hx=>?_,lt:=h.lt,eJ:=h.eJ,below:=h.below,size:=h.size,dP:=λx v hx=>?_,defers:=h.defers}⟩
  · obtain⟨y,b,hy,rfl,rfl,_⟩:=look x c hx
    rw[hfs y b hy,(hE y b hy).2]
    exact(h.blocks y b hy).lr hE
  · obtain⟨y,b,hy,rfl,rfl,_⟩:=look x c hx
    obtain⟨y',b',PR,rfl,rfl,_⟩:=look x' c' aX
    rw[hfs y b hy,hfs y' b' PR]
    exact h.bX y y' b b' hy PR λhyy=>hxx (by rw[hyy])
  · obtain⟨y,b,hy,rfl,rfl,_⟩:=look x c hx
    rw[hfs y b hy];exact h.dt y b hy
  · obtain⟨y,b,hy,rfl,rfl,_⟩:=look x c hx
    rw[hfs y b hy];exact h.new y b hy
  · obtain⟨h1,c,hc⟩:=h.dP x v hx
    have hxd:x≠d:=λhxd=>by subst hxd;rw[hh] at hx;cases hx
    have hxe:x≠e:=λhxe=>by subst hxe;rw[hc] at he;cases he
    refine⟨by simp[eD,hxe,h1],yA d e c,?_⟩
    show av (sE d e σ.bl) x=_
    rw[yB _ he,if_neg hxe,if_neg hxd,hc];rfl
theorem KO (h:eo B W0 I0 σ a w){t:Tw}(ht:iH σ t=some aA):eo B W0 I0 aA a w:=by
 obtain⟨I,val,fs,h⟩:=h
 cases t with
 | back D d i j=>
  simp only[iH] at ht
  split at ht
  ·rename_i s nrows v sz rows hD hv hd
   split at ht
   ·rename_i r hr
    split at ht
    ·rename_i hc
     simp only[aaQ.injEq] at ht;subst ht
     obtain⟨gP,hS⟩:=h.Sm hD hv hd hr hc.1 hc.2
     exact⟨_,_,_,hS⟩
    cases ht
   cases ht
  cases ht
 | freeze d=>
  simp only[iH] at ht
  split at ht
  ·rename_i sz rows hd
   simp only[aaQ.injEq] at ht;subst ht
   exact h.freeze hd
  cases ht
 | slot k d sz=>
  simp only[iH] at ht
  split at ht
  ·rename_i hz hd
   simp only[aaQ.injEq] at ht;subst ht
   exact h.UH hz hd sz
  cases ht
 | cell b j d sz=>
  simp only[iH] at ht
  split at ht
  ·rename_i n r hb hd
   split at ht
   ·rename_i hz
    simp only[aaQ.injEq] at ht;subst ht
    exact h.UI hb hz hd sz
   cases ht
  cases ht
 | up d=>
  simp only[iH] at ht
  split at ht
  ·rename_i b hb
   simp only[aaQ.injEq] at ht;subst ht
   exact⟨_,_,_,h.reorder (V0 hb)⟩
  cases ht
 | arr d=>
  simp only[iH] at ht
  split at ht
  ·rename_i sz r hb
   split at ht
   ·rename_i hl
    simp only[aaQ.injEq] at ht;subst ht
    exact⟨_,_,_,h.mq hb hl⟩
   cases ht
  cases ht
 | drop d=>
  simp only[iH,aaQ.injEq] at ht
  subst ht
  exact⟨_,_,_,h.drop d⟩
 | aa k=>
  simp only[iH,aaQ.injEq] at ht
  subst ht
  exact⟨_,_,_,{h with cC:=h.cC.xo k λv _=>.aa v}⟩
 | perm bl=>
  simp only[iH] at ht
  split at ht
  ·rename_i hk
   simp only[aaQ.injEq] at ht;subst ht
   exact⟨_,_,_,h.reorder hk⟩
  cases ht
 | lr d e=>
  simp only[iH] at ht
  split at ht
  ·rename_i b0 hd he hh
   simp only[aaQ.injEq] at ht;subst ht
   exact h.lr hd he hh
  cases ht
 | Mt d=>
  simp only[iH] at ht
  split at ht
  ·rename_i s rows hd
   simp only[aaQ.injEq] at ht;subst ht
   exact h.Mt hd
  cases ht
 | zY d sz=>
  simp only[iH] at ht
  split at ht
  ·rename_i s rows hd
   simp only[aaQ.injEq] at ht;subst ht
   exact⟨_,_,_,h.zY hd⟩
  cases ht
 | Px k=>
  simp only[iH] at ht
  split at ht
  ·rename_i r aR hc
   simp only[aaQ.injEq] at ht;subst ht
   exact h.Px hc
  cases ht
 | Ef k j d sz=>
  simp only[iH] at ht
  split at ht
  ·rename_i cs hk hd
   split at ht
   ·rename_i hz
    simp only[aaQ.injEq] at ht;subst ht
    exact h.Ef hk hz hd sz
   cases ht
  cases ht
theorem iR :∀(tw:List Tw) {σ:St},eo B W0 I0 σ a w->eS σ tw=some aA->eo B W0 I0 aA a w
 | [],σ,h,ht=>by simp only[eS,aaQ.injEq] at ht;subst ht;exact h
 | t::l,σ,h,ht=>by
  simp only[eS] at ht
  split at ht
  ·rename_i aR h1;exact iR l (KO h h1) ht
  cases ht
end
section
variable {P : Program} {T : dA} {X : Spec} {B : Ft} {W0 : World} {I0 : Ft} {I : Ft} {val : Nat -> Value} {fs : Nat -> Ft} {σ aA : St} {a : Act} {w w' : World} {o : Oper}
mutual
theorem bI.pj {d:Nat}{pv:PV}{bl:List (Nat × aO)}(hd:av bl d=none):∀{c:PV} {v:Value},bI w I val bl c v->kg d pv c=c
 | _,_,.leaf c v hl h=>by cases c<;>first | rfl | simp[bG] at hl
 | _,_,.own e b hb hk=>by
  have hne:¬ e=d:=λh0=>by subst h0;rw[hd] at hb;cases hb
  simp only[kg,beq_false hne,cond_false]
 | _,_,.pt e i j b g hb hg=>by
  have hne:¬ e=d:=λh0=>by subst h0;rw[hd] at hb;cases hb
  simp only[kg,beq_false hne,cond_false]
 | _,_,.rd cs a vs hb hs hc hr=>rfl
 | _,_,.agg cs vs h=>by simp only[kg,aG.pj hd h]
 | _,_,.aw cs vs h=>by simp only[kg,aG.pj hd h]
 | _,_,.fn f cs vs h=>by simp only[kg,aG.pj hd h]
 | _,_,.aa v=>rfl
theorem aG.pj {d:Nat}{pv:PV}{bl:List (Nat × aO)}(hd:av bl d=none):∀{l:List PV} {vs:List Value},aG w I val bl l vs->kD d pv l=l
 | _,_,.nil=>rfl
 | _,_,.cons c l v vs h t=>by simp only[kD,bI.pj hd h,aG.pj hd t]
end
theorem Ia {d:Nat}{pv:PV}:∀(l:List PV) (k:Nat),kD d pv (bT l k (.own d))=bT (kD d pv l) k pv
 | [],_=>rfl
 | c::l,0=>by simp only[bT,kD,kg,wY,cond_true]
 | c::l,k+1=>by simp only[bT,kD,Ia l k]
theorem Ib {d:Nat}:∀{l:List (Nat × Value)},hY l d=none->iS l d=l
 | [],_=>rfl
 | (e,v)::l,h=>by
  rw[qE] at h
  by_cases h0:e=d
  ·rw [if_pos h0] at h;cases h
  rw[if_neg h0] at h
  show(bif nq e d then iS l d else (e,v)::iS l d)=_
  rw[beq_false h0,cond_false,Ib h]
theorem bz.V1 (h0:bz B W0 I0 I val fs σ a w){d sz:Nat}{rows:List (List PV)}(hd:av σ.bl d=none){a':Act}{w':World}(h:eo B W0 I0 {σ with sl:=bT σ.sl d (.own d),bl:=(d,⟨.arr,sz,rows⟩)::σ.bl} a' w')(hr:ar rows=rows):
    eo B W0 I0 (σ.put (some d) (.sl sz rows)) a' w':=by
  obtain⟨I1,qw,vn,h1⟩:=h
  have hb:av ((d,(⟨.arr,sz,rows⟩:aO))::σ.bl) d=some ⟨.arr,sz,rows⟩:=by rw[bQ,if_pos rfl]
  obtain⟨I2,wE,Em,h2⟩:=h1.freeze (d:=d) hb
  have e1:iC ((d,(⟨.arr,sz,rows⟩:aO))::σ.bl) d=iC σ.bl d:=by
    show(bif nq d d then iC σ.bl d else _)=_
    rw[wY,cond_true]
  have e2:kD d (.sl sz (ar rows)) (bT σ.sl d (.own d))=bT σ.sl d (.sl sz rows):=by
    rw[Ia,aG.pj hd h0.cC,hr]
  have e3:iS σ.hd d=σ.hd:=by
    refine Ib ?_
    cases hq:hY σ.hd d with
    | none=>rfl
    | some v=>obtain⟨_,c,hc⟩:=h0.dP d v hq;rw[hd] at hc;cases hc
  have e4:∀ e,av σ.bl e=av (oG d (.sl sz (ar rows)) (iC σ.bl d)) e:=by
    intro e
    rw[sk,gb]
    by_cases he:d=e
    · subst he;rw[if_pos rfl,hd];rfl
    · rw[if_neg he]
      cases hq:av σ.bl e with
      | none=>rfl
      | some b=>
        have hB:=h0.blocks e b hq
        obtain⟨k,s,rs⟩:=b
        cases k with
        | arr=>rfl
        | var=>
          match rs,hB with
          | [r],⟨g,_,_,c,_,_,hs,_⟩=>simp only[ab2,rS,aG.pj hd hs]
        | lit=>
          match rs,hB with
          | [r],⟨g,_,_,_,c,_,_,hs,_⟩=>simp only[ab2,rS,aG.pj hd hs]
        | mul=>
          match rs,hB with
          | [r],⟨g,_,_,_,c,_,_,hs,_⟩=>simp only[ab2,rS,aG.pj hd hs]
  have h3:=h2.reorder (cy:=σ.bl) (λe=>by show _=av (oG d _ (iC ((d,(⟨.arr,sz,rows⟩:aO))::σ.bl) d)) e;rw[e1];exact e4 e)
  refine⟨I2,wE,Em,?_⟩
  have e5:(σ.put (some d) (.sl sz rows))={sl:=kD d (.sl sz (ar rows)) (bT σ.sl d (.own d)),bl:=σ.bl,hd:=iS σ.hd d}:=by
    rw[e2,e3];rfl
  rw[e5]
  exact h3
theorem KP :∀{r:List PV},eK bG r=true->dh r=r
 | [],_=>rfl
 | c::r,h=>by
  simp only[eK,aaR] at h
  have:erase c=c:=by cases c<;>first | rfl | (have h1:=h.1;simp[bG] at h1)
  simp only[dh,this,KP h.2]
theorem AK :∀{ps:List (Nat × Operand)} {i:Nat} {rows:List (List PV)},kR σ i ps=some rows->ar rows=rows
 | [],i,rows,h=>by simp only[kR,aaQ.injEq] at h;subst h;rfl
 | (j,x)::ps,i,rows,h=>by
  simp only[kR] at h
  split at h
  ·split at h
   ·rename_i rs hr
    simp only[aaQ.injEq] at h;subst h
    simp only[ar,dh,erase,AK hr]
   cases h
  ·split at h
   ·rename_i rs hr
    simp only[aaQ.injEq] at h;subst h
    simp only[ar,dh,erase,AK hr]
   cases h
  cases h
theorem OI (hT:fa P T)(h:bz B W0 I0 I val fs σ a w){K:St->Prop}{next:Act->World->Prop}{Q:Exit->Act->World->Prop}
  (hk:∀ aA a' w',eo B W0 I0 aA a' w'->K aA->next a' w') (ha:JX T o K σ):o.wp P a w next Q:=by
 obtain⟨t,e,i,ie,len,ps,d,rows,ho,hdst,hd,ht,hkd,he,hl,hK⟩:=ha
 rw[hdst] at hK
 obtain⟨kd,s0,b0,z0⟩:=i
 simp only at hkd
 subst hkd
 have fin:∀ aR:St,aR={σ with sl:=bT σ.sl d (.own d),bl:=(d,⟨.arr,ie.size,rows⟩)::σ.bl}->ar rows=rows->fR P B W0 I0 o a w aR->o.wp P a w next Q:=by
  intro aR h1 hr hg
  subst h1
  exact hg.wp λa' w' hS=>hk _ _ _ (h.V1 hd hS hr) hK
 unfold De at hl
 split at hl
 ·rename_i hps
  simp only[aaQ.injEq] at hl;subst hl
  refine fin _ rfl rfl (qv hT h ho ?_)
  simp only[jH,hdst,ht,he,hps,hd]
 ·rename_i x hps
  split at hl
  ·rename_i hc
   simp only[aaQ.injEq] at hl;subst hl
   simp only[aaR] at hc
   have hlf:=hc.2
   have hg:=qv hT h ho (aA:={σ with sl:=bT σ.sl d (.own d),bl:=(d,⟨.lit,ie.size,[cellsOf (σ.get x)]⟩)::σ.bl}) (by
    simp only[jH,hdst,ht,he,hps,hd,hc.1.1.1,hc.1.1.2,hc.1.2,Ae hlf,Bool.and_self])
   refine hg.wp λa' w' hS=>?_
   obtain⟨I1,qw,vn,h1⟩:=hS
   have hb:av ((d,(⟨.lit,ie.size,[cellsOf (σ.get x)]⟩:aO))::σ.bl) d=some ⟨.lit,ie.size,[cellsOf (σ.get x)]⟩:=by rw[bQ,if_pos rfl]
   have h2:=h1.mq (d:=d) hb hlf
   have e1:cg ((d,(⟨.lit,ie.size,[cellsOf (σ.get x)]⟩:aO))::σ.bl) d ⟨.arr,ie.size,[cellsOf (σ.get x)]⟩=(d,⟨.arr,ie.size,[cellsOf (σ.get x)]⟩)::σ.bl:=by
    simp only[cg,wY,cond_true]
   refine hk _ _ _ (h.V1 hd ⟨I1,qw,vn,?_⟩ (by simp only[ar,KP hlf])) hK
   rw[<- e1];exact h2
  cases hl
 rename_i h1 h2
 split at hl
 ·rename_i dI hp
  split at hl
  ·rename_i hc
   simp only[aaQ.injEq] at hl;subst hl
   have hsz:ie.size=1:=by simp only[aaR] at hc;exact eZ hc.1.1.1
   refine fin _ ?_ (AK hp) (CD hT h ho (by simp only[pG,hdst,ht,he,hp,hd,hc];rfl))
   rw[hsz]
  cases hl
 cases hl
theorem Ic (hT:fa P T)(hX:jd P X B W0)(h:bz B W0 I0 I val fs σ a w){K:St->Prop}{next:Act->World->Prop}{Q:Exit->Act->World->Prop}
  (hk:∀ aA a' w',eo B W0 I0 aA a' w'->K aA->next a' w') (ha:rh T X o K σ):o.wp P a w next Q:=by
 rcases ha with ha | ha | ha | ha | ha | ⟨tw,ha⟩ | ⟨aR,ha,hK⟩ | ha | ha
 ·exact qH hT hX h hk (.inl ha)
 ·exact qH hT hX h hk (.inr (.inl ha))
 ·exact qH hT hX h hk (.inr (.inr (.inl ha)))
 ·exact qH hT hX h hk (.inr (.inr (.inr (.inl ha))))
 ·exact qH hT hX h hk (.inr (.inr (.inr (.inr ha))))
 ·exact EK hT hX h (λaR a1 w1 h1 ⟨bo,ht,hK⟩=>hk bo a1 w1 (iR tw h1 ht) hK) ha
 ·exact(Ma hT h ha).wp λa' w' hS=>hk _ _ _ hS hK
 ·exact OG hX h hk ha
 exact OI hT h hk ha
end
def KQ (all:List Oper)(o:Oper)(F:St->Prop)(K:St->Prop)(σ:St):Prop:=
  match o.guard with
  | none=>F σ
  | some (j,want)=>match ji all j with
    | some t=>match bM σ.sl t with
      | .bool b=>(b=want->F σ)/\(b=(!want)->K (σ.put o.dst (.aw [])))
      | .aw []=>K (σ.put o.dst (.aw []))
      | _=>False
    | none=>False
section
variable {P : Program} {T : dA} {X : Spec} {B : Ft} {W0 : World} {I0 : Ft} {σ aA : St} {a : Act} {w w' : World} {o : Oper} {ops : Array Oper} {Q : Exit -> Act -> World -> Prop}
theorem Ie {I:Ft}{val:Nat->Value}{bl:List (Nat × aO)}:bI w I val bl (.aw []) undef:=.aw [] [] .nil
theorem I7 {I:Ft}{val:Nat->Value}{fs:Nat->Ft}(h:bz B W0 I0 I val fs σ a w){j:Nat}{t:Tmp}(hd:ji ops.toList j=some t)(hb:bM σ.sl t=.aw []):yielded ops a.tmps j=none:=by
 have h1:=qB _ _ _ hd
 rw[Array.getElem?_toList] at h1
 unfold yielded
 rw[h1]
 have h2:=h.cC.get t undef
 rw[hb] at h2
 have h3:a.tmps.toList.getD t undef=undef:=by
  generalize a.tmps.toList.getD t undef=v at h2
  cases h2 with
  | leaf c v hl h=>cases hl
  | aw cs vs h=>cases h;rfl
 simp only[List.getD_eq_getElem?_getD,Array.getElem?_toList] at h3
 cases hq:a.tmps[t]? with
 | none=>simp[hq]
 | some v=>
  rw[hq] at h3
  simp only[Option.getD_some] at h3
  subst h3
  simp[hq,undef]
theorem yC (hT:fa P T)(hX:jd P X B W0){i:Nat}(ho:ops[i]? =some o)(h:eo B W0 I0 σ a w){K:St->Prop}{next:Act->World->Prop}
  (hk:∀ aA a' w',eo B W0 I0 aA a' w'->K aA->next a' w') (hg:KQ ops.toList o (rh T X o K) K σ):wpOp P ops Q i next a w:=by
 obtain⟨I,val,fs,h⟩:=h
 unfold wpOp
 simp only[ho]
 unfold KQ at hg
 split at hg
 ·rename_i hgd
  have hw:Region.wanted o (yielded ops a.tmps)=true:=by simp[Region.wanted,hgd]
  rw[if_pos hw]
  exact .inl (Ic hT hX h hk hg)
 rename_i j want hgd
 split at hg
 case h_2=>exact hg.elim
 rename_i t ht
 split at hg
 case h_3=>exact hg.elim
 case h_2 hb=>
  have hy:=I7 h ht hb
  have hw:Region.wanted o (yielded ops a.tmps)=false:=by simp[Region.wanted,hgd,hy]
  rw[hw,if_neg (by simp)]
  exact hk _ _ _ ⟨I,val,fs,h.put o.dst Ie⟩ hg
 rename_i b hb
 have hy:=KM h ht hb
 have hw:Region.wanted o (yielded ops a.tmps)=(b == want):=by simp[Region.wanted,hgd,hy]
 rw[hw]
 by_cases hbw:b=want
 ·rw [if_pos (by simp[hbw])]
  exact .inl (Ic hT hX h hk (hg.1 hbw))
 rw[if_neg (by simp[hbw])]
 exact hk _ _ _ ⟨I,val,fs,h.put o.dst Ie⟩ (hg.2 (by cases b<;>cases want<;>simp_all))
theorem Ig (all:List Oper)(o:Oper)(rest:List Oper)(K:St->Prop)(σ:St):bN T X all (o::rest) K σ=KQ all o (rh T X o (bN T X all rest K)) (bN T X all rest K) σ:=rfl
theorem EM (hT:fa P T)(hX:jd P X B W0){K:St->Prop}(hk:∀ aA a' w',eo B W0 I0 aA a' w'->K aA->Q .normal a' w'):∀(l:List Oper) (k:Nat),ops.toList.drop k=l->
  ∀(σ:St) (a:Act) (w:World),eo B W0 I0 σ a w->bN T X ops.toList l K σ->wpOps P ops Q (List.range' k l.length) a w
 | [],k,hl,σ,a,w,h,ha=>hk σ a w h ha
 | o::l,k,hl,σ,a,w,h,ha=>by
  have ho:ops[k]? =some o:=by
   have:(ops.toList.drop k)[0]? =some o:=by rw[hl];rfl
   simpa using this
  have my:ops.toList.drop (k+1)=l:=by
   have:(ops.toList.drop k).drop 1=l:=by rw[hl];rfl
   rw[List.drop_drop] at this
   exact this
  rw[List.length_cons,List.range'_succ,wpOps_cons]
  rw[Ig] at ha
  exact yC hT hX ho h (λaA a' w' h'=>EM hT hX hk l (k+1) my aA a' w' h') ha
theorem KR (hT:fa P T)(hX:jd P X B W0){id:Nat}{K:St->Prop}(hk:∀ aA a' w',eo B W0 I0 aA a' w'->K aA->Q .normal a' w')(h:eo B W0 I0 σ a w)
  (ha:bN T X ops.toList ops.toList K σ):(Code.region id ops false).wp P Q a w:=by
 apply wp_region
 have:=EM (ops:=ops) hT hX hk ops.toList 0 rfl σ a w h ha
 rw[List.range_eq_range']
 simpa using this
variable {I : Ft} {val : Nat -> Value} {fs : Nat -> Ft}
theorem aG.qq {bl:List (Nat × aO)}:∀{l:List PV} {vs:List Value},aG w I val bl l vs->∀(k:Nat) (ts:List Nat),aG w I val bl (Av.qq k ts l) vs
 | _,_,.nil,_,_=>.nil
 | _,_,.cons c l v vs h t,k,[]=>.cons _ _ _ _ (.aa _) (t.qq 0 [])
 | _,_,.cons c l v vs h t,k,e::ts=>by
  simp only[Av.qq]
  cases nq k e with
  | true=>exact .cons _ _ _ _ h (t.qq _ _)
  | false=>exact .cons _ _ _ _ (.aa _) (t.qq _ _)
theorem sJ (ds:List Nat):∀(l:List (Nat × aO)) {σ:St},bz B W0 I0 I val fs σ a w->bz B W0 I0 I val fs (xe ds l σ) a w
 | [],σ,h=>h
 | (e,b)::l,σ,h=>by
  simp only[xe]
  cases qp e ds with
  | true=>exact sJ ds l h
  | false=>exact sJ ds l (h.drop e)
theorem yD (h:eo B W0 I0 σ a w)(ks ds:List Nat):eo B W0 I0 (σ.keep ks ds) a w:=by
 obtain⟨I,val,fs,h⟩:=h
 exact⟨I,val,fs,sJ ds _ {h with cC:=h.cC.qq 0 ks}⟩
end
end Go.Av

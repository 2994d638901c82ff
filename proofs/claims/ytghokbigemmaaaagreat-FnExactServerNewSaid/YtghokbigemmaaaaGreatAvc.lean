/- Lemmas and walks for FnExactServerNew: what each function of the program and of the reference comes to. -/
import Derived.Test.YtghokbigemmaaaaGreatAvb
import Derived.Laws.Cover3
open Option renaming some→aaQ
open Bool renaming and_eq_true→aaR
open Nat renaming zero_le→aaW,lt_of_lt_of_le→abg,zero_add→abj,le_refl→abr,zero_mul→ab0,succ_mul→ab7,le_trans→acf,add_zero→ack,mul_le_mul_right→acu
open List renaming length_append→aaY,getElem?_eq_some_iff→aaZ,length_take→aa1,length_cons→aa5,cons_append→abt,nil_append→abv,mem_of_getElem?→abx,getElem?_take→abz,flatten_cons→abD,eq_nil_of_length_eq_zero→abJ,mem_or_eq_of_mem_set→abW
open Ne renaming symm→abG
namespace Go.Av
open Go Go.RowKit
set_option linter.unusedVariables false
set_option linter.unusedSimpArgs false
theorem beq_false {d e:Nat}(h:¬ d=e):nq d e=false:=by
 cases hb:nq d e with
 | false=>rfl
 | true=>exact absurd (eZ hb) h
theorem beq_true (d:Nat):nq d d=true:=by simp
theorem qE (d:Nat)(v:Value)(l:List (Nat × Value))(e:Nat):hY ((d,v)::l) e=if d=e then some v else hY l e:=by
 show(bif nq d e then some v else hY l e)=_
 by_cases h:d=e
 ·subst h;rw[beq_true];simp
 rw[if_neg h,beq_false h];rfl
theorem sh {d e:Nat}{v:Value}:∀{l:List (Nat × Value)},hY (iS l d) e=some v->e≠d/\hY l e=some v
 | [],h=>by cases h
 | (k,u)::l,h=>by
  rw[qE]
  by_cases hk:k=d
  ·have h':hY (iS l d) e=some v:=by
    have:iS ((k,u)::l) d=iS l d:=by
     show(bif nq k d then iS l d else (k,u)::iS l d)=_
     rw[hk,beq_true];rfl
    rwa [this] at h
   obtain⟨h1,h2⟩:=sh h'
   exact⟨h1,by rw[if_neg (by rw[hk];exact abG h1)];exact h2⟩
  have h':hY ((k,u)::iS l d) e=some v:=by
   have:iS ((k,u)::l) d=(k,u)::iS l d:=by
    show(bif nq k d then iS l d else (k,u)::iS l d)=_
    rw[beq_false hk];rfl
   rwa [this] at h
  rw[qE] at h'
  by_cases h0:k=e
  ·rw [if_pos h0] at h' ⊢;exact⟨by rw[<- h0];exact hk,h'⟩
  rw[if_neg h0] at h' ⊢;exact sh h'
theorem gb (d e:Nat):∀(l:List (Nat × aO)),av (iC l d) e=if d=e then none else av l e
 | []=>by simp[iC,av]
 | (f,c)::l=>by
  simp only[iC]
  by_cases hf:f=d
  ·subst hf
   rw[beq_true,cond_true,gb f e l,bQ]
   by_cases h:f=e
   ·simp [h]
   simp[h]
  rw[beq_false hf,cond_false,bQ,bQ,gb d e l]
  by_cases h:f=e
  ·subst h;rw[if_pos rfl,if_neg (abG hf),if_pos rfl]
  rw[if_neg h,if_neg h]
def nJ (d:Nat):aO->aO
 | ⟨.arr,sz,rows⟩=>⟨.arr,sz,rows⟩
 | ⟨k,sz,[r]⟩=>⟨k,sz,[fp d r]⟩
 | ⟨k,sz,_⟩=>⟨k,sz,[]⟩
theorem tS (d:Nat)(b:aO):(nJ d b).k=b.k/\(nJ d b).sz=b.sz:=by
 obtain⟨k,sz,rows⟩:=b
 cases k<;>first | exact⟨rfl,rfl⟩ | (match rows with | []=>exact⟨rfl,rfl⟩ | [r]=>exact⟨rfl,rfl⟩ | _::_::_=>exact⟨rfl,rfl⟩)
theorem gw (d e:Nat):∀(l:List (Nat × aO)),av (fX d l) e=(av l e).map (nJ d)
 | []=>rfl
 | (f,c)::l=>by
  have hc:fX d ((f,c)::l)=(f,nJ d c)::fX d l:=by
   obtain⟨k,sz,rows⟩:=c
   cases k<;>first | rfl | (match rows with | []=>rfl | [r]=>rfl | _::_::_=>rfl)
  rw[hc,bQ,bQ,gw d e l]
  by_cases h:f=e<;>simp[h]
theorem ct (d:Nat)(b:aO)(e:Nat):∀(l:List (Nat × aO)),av (cg l d b) e=if d=e then some b else av l e
 | []=>by simp[cg,bQ,av]
 | (f,c)::l=>by
  simp only[cg]
  by_cases hf:f=d
  ·subst hf
   rw[beq_true,cond_true,bQ,bQ]
   by_cases h:f=e<;>simp[h]
  rw[beq_false hf,cond_false,bQ,bQ,ct d b e l]
  by_cases h:f=e
  ·subst h;rw[if_pos rfl,if_neg (abG hf),if_pos rfl]
  rw[if_neg h,if_neg h]
section
variable {P : Program} {T : dA} {B : Ft} {W0 : World} {I0 : Ft} {I : Ft} {val : Nat -> Value} {fs : Nat -> Ft} {σ aA : St} {a : Act} {w w' : World} {o : Oper}
def sH (d:Nat)(bl cy:List (Nat × aO)):Prop:=∀ e b,e≠d->av bl e=some b->∃ b',av cy e=some b'/\b'.sz=b.sz/\b'.k=b.k
mutual
theorem bI.mS {cr:Nat->Value}{d:Nat}{bl cy:List (Nat × aO)}(hE:sH d bl cy)(hv:∀ e,e≠d->cr e=val e):∀{c:PV} {v:Value},bI w I val bl c v->bI w I cr cy (Av.kill d c) v
 | _,_,.leaf c v hl h=>by
  have:Av.kill d c=c:=by cases c<;>first | rfl | simp[bG] at hl
  rw[this];exact .leaf c v hl h
 | _,_,.own e b hb hk=>by
  by_cases h:e=d
  ·subst h;simp only[Av.kill,beq_true,cond_true];exact .aa _
  simp only[Av.kill,beq_false h,cond_false]
  obtain⟨b',cP,_,jl⟩:=hE e b h hb
  rw[<- hv e h]
  exact .own e b' cP (by rw[jl];exact hk)
 | _,_,.pt e i j b g hb hg=>by
  by_cases h:e=d
  ·subst h;simp only[Av.kill,beq_true,cond_true];exact .aa _
  simp only[Av.kill,beq_false h,cond_false]
  obtain⟨b',cP,hs,_⟩:=hE e b h hb
  rw[<- hs]
  exact .pt e i j b' g cP (by rw[hv e h];exact hg)
 | _,_,.rd cs a vs hI hs hc hr=>.rd cs a vs hI hs hc hr
 | _,_,.agg cs vs h=>.agg _ vs (aG.mS hE hv h)
 | _,_,.aw cs vs h=>.aw _ vs (aG.mS hE hv h)
 | _,_,.fn f cs vs h=>.fn f _ vs (aG.mS hE hv h)
 | _,_,.aa v=>.aa v
theorem aG.mS {cr:Nat->Value}{d:Nat}{bl cy:List (Nat × aO)}(hE:sH d bl cy)(hv:∀ e,e≠d->cr e=val e):∀{l:List PV} {vs:List Value},aG w I val bl l vs->aG w I cr cy (fp d l) vs
 | _,_,.nil=>.nil
 | _,_,.cons c l v vs h t=>.cons _ _ v vs (bI.mS hE hv h) (aG.mS hE hv t)
end
theorem bI.kill {d:Nat}{bl cy:List (Nat × aO)}(hE:sH d bl cy){c:PV}{v:Value}(h:bI w I val bl c v):bI w I val cy (Av.kill d c) v:=h.mS hE λ_ _=>rfl
theorem aG.kill {d:Nat}{bl cy:List (Nat × aO)}(hE:sH d bl cy){l:List PV}{vs:List Value}(h:aG w I val bl l vs):aG w I val cy (fp d l) vs:=h.mS hE λ_ _=>rfl
theorem oc (d:Nat):∀ l:List PV,(fp d l).length=l.length
 | []=>rfl
 | _::l=>by simp[fp,oc d l]
theorem HO (d:Nat)(bl:List (Nat × aO)):sH d bl (fX d (iC bl d)):=by
 intro e b hne hb
 refine⟨nJ d b,?_,(tS d b).2,(tS d b).1⟩
 rw[gw,gb,if_neg (abG hne),hb]
 rfl
theorem iU.mS {cr:Nat->Value}{d:Nat}{bl cy:List (Nat × aO)}(hE:sH d bl cy)(hv:∀ e,e≠d->cr e=val e){b:aO}{v:Value}{F:Ft}(h:iU w I val bl b v F):iU w I cr cy (nJ d b) v F:=by
 obtain⟨k,sz,rows⟩:=b
 cases k with
 | arr=>exact h
 | var=>
  match rows,h with
  | [r],h=>
   obtain⟨g,qF,T,c,hg,hh,hs,hl,h1⟩:=h
   exact⟨g,qF,T,c,hg,hh,hs.mS hE hv,by rw[oc];exact hl,h1⟩
 | lit=>
  match rows,h with
  | [r],h=>
   obtain⟨g,qF,h0,T,c,hg,hh,hs,hl,h1⟩:=h
   exact⟨g,qF,h0,T,c,hg,hh,hs.mS hE hv,by rw[oc];exact hl,h1⟩
 | mul=>
  match rows,h with
  | [r],h=>
   obtain⟨g,qF,h0,T,c,hg,hh,hs,hl,h1⟩:=h
   exact⟨g,by rw[oc];exact qF,h0,T,c,hg,hh,hs.mS hE hv,rfl,h1⟩
theorem iU.kill {d:Nat}{bl cy:List (Nat × aO)}(hE:sH d bl cy){b:aO}{v:Value}{F:Ft}(h:iU w I val bl b v F):iU w I val cy (nJ d b) v F:=h.mS hE λ_ _=>rfl
theorem bz.drop (h:bz B W0 I0 I val fs σ a w)(d:Nat):bz B W0 I0 I val fs (σ.drop d) a w:=by
 have look:∀ e c,av (fX d (iC σ.bl d)) e=some c->∃ b,e≠d/\av σ.bl e=some b/\c=nJ d b:=by
  intro e c he
  rw[gw,gb] at he
  by_cases h0:d=e
  ·rw [if_pos h0] at he;cases he
  rw[if_neg h0] at he
  cases hb:av σ.bl e with
  | none=>rw[hb] at he;cases he
  | some b=>rw[hb] at he;exact⟨b,abG h0,rfl,by simpa using he.symm⟩
 refine{cC:=aG.kill (HO d σ.bl) h.cC,blocks:=λe c he=>?_,bX:=λe e' c c' he lu hne=>?_,dt:=λe c he=>?_,new:=λe c he=>?_,lt:=h.lt,eJ:=h.eJ,below:=h.below,size:=h.size,dP:=λe v he=>?_,defers:=h.defers}
 ·obtain⟨b,_,hb,rfl⟩:=look e c he
  exact(h.blocks e b hb).kill (HO d σ.bl)
 ·obtain⟨b,_,hb,_⟩:=look e c he
  obtain⟨b',_,cP,_⟩:=look e' c' lu
  exact h.bX _ _ _ _ hb cP hne
 ·obtain⟨b,_,hb,_⟩:=look e c he;exact h.dt _ _ hb
 ·obtain⟨b,_,hb,_⟩:=look e c he;exact h.new _ _ hb
 obtain⟨hne,he⟩:=sh he
 obtain⟨h1,c,hc⟩:=h.dP e v he
 exact⟨h1,_,by show av (fX d (iC σ.bl d)) e=_;rw[gw,gb,if_neg (abG hne),hc];rfl⟩
def Sub (bl cy:List (Nat × aO)):Prop:=∀ e b',av cy e=some b'->∃ b,av bl e=some b/\b.sz=b'.sz/\b.k=b'.k
theorem Sub.refl (bl:List (Nat × aO)):Sub bl bl:=λe b h=>⟨b,h,rfl,rfl⟩
theorem Sub.trans {a b c:List (Nat × aO)}(h:Sub a b)(h':Sub b c):Sub a c:=λe x hx=>by
 obtain⟨y,hy,h1,h2⟩:=h' e x hx
 obtain⟨z,hz,h3,h4⟩:=h e y hy
 exact⟨z,hz,h3.trans h1,h4.trans h2⟩
theorem rB (bl:List (Nat × aO))(d:Nat):Sub bl (fX d (iC bl d)):=by
 intro e c he
 rw[gw,gb] at he
 by_cases h0:d=e
 ·rw [if_pos h0] at he;cases he
 rw[if_neg h0] at he
 cases hb:av bl e with
 | none=>rw[hb] at he;cases he
 | some b=>rw[hb] at he;simp at he;subst he;exact⟨b,rfl,(tS d b).2.symm,(tS d b).1.symm⟩
def oi (fs:Nat->Ft)(bl cy:List (Nat × aO))(F:Ft):Prop:=∀ x,F x->∃ d b,av bl d=some b/\av cy d=none/\fs d x
theorem CJ (h:bz B W0 I0 I val fs σ a w){ph:List (Nat × aO)}{c c':PV}{v:Value}(hc:bI w I val ph c v)(ha:dD σ c=some (c',aA)):
  ∃ F,bz B W0 I0 I val fs aA a w/\dj w I c' v F/\oi fs σ.bl aA.bl F/\Sub σ.bl aA.bl:=by
 have leaf:∀ c',bG c=true->c'=c->aA=σ->∃ F,bz B W0 I0 I val fs aA a w/\dj w I c' v F/\oi fs σ.bl aA.bl F/\Sub σ.bl aA.bl:=by
  intro c' hl he hs
  subst he;subst hs
  cases hc with
  | leaf c v hl h'=>exact⟨bf,h,h',λ_ h=>h.elim,Sub.refl _⟩
  | own d b hb hk=>simp[bG] at hl
  | pt d i j b g hb hg=>simp[bG] at hl
  | rd cs a vs hI hs hc hr=>simp[bG] at hl
  | agg cs vs h=>simp[bG] at hl
  | aw cs vs h=>simp[bG] at hl
  | fn f cs vs h=>simp[bG] at hl
  | aa v=>simp[bG] at hl
 cases c with
 | own d=>
  simp only[dD] at ha
  split at ha
  ·rename_i sz rows hb
   simp only[aaQ.injEq,Prod.mk.injEq] at ha
   obtain⟨rfl,rfl⟩:=ha
   have hv:v=val d:=by cases hc with
    | leaf c v hl h=>cases hl
    | own d b hb hk=>rfl
   subst hv
   obtain⟨e,xs,G,hu,how,hR,hG,hob⟩:=h.blocks d _ hb
   refine⟨fs d,h.drop d,.ow sz rows _ e xs _ G hu how hR hG hob,λx hx=>⟨d,_,hb,?_,hx⟩,rB σ.bl d⟩
   show av (fX d (iC σ.bl d)) d=none
   rw[gw,gb,if_pos rfl];rfl
  cases ha
 | ow sz rows=>
  cases hc with
  | leaf c v hl h=>cases hl
 | int k n=>simp[dD,bG] at ha;exact leaf _ rfl ha.1.symm ha.2.symm
 | bool b=>simp[dD,bG] at ha;exact leaf _ rfl ha.1.symm ha.2.symm
 | str b=>simp[dD,bG] at ha;exact leaf _ rfl ha.1.symm ha.2.symm
 | zc=>simp[dD,bG] at ha;exact leaf _ rfl ha.1.symm ha.2.symm
 | sl sz rows=>simp[dD,bG] at ha;exact leaf _ rfl ha.1.symm ha.2.symm
 | pt d i j=>simp[dD,bG] at ha
 | rd cs=>simp[dD,bG] at ha
 | agg cs=>simp[dD,bG] at ha
 | aw cs=>simp[dD,bG] at ha
 | fn f cs=>simp[dD,bG] at ha
 | aa=>simp[dD,bG] at ha
 | raw v=>simp[dD,bG] at ha
theorem lO :∀{cs:List PV} {vs:List Value} {σ aA:St} {cx:List PV} {ph:List (Nat × aO)},bz B W0 I0 I val fs σ a w->aG w I val ph cs vs->ek σ cs=some (cx,aA)->
  ∃ F,bz B W0 I0 I val fs aA a w/\bE w I cx vs F/\oi fs σ.bl aA.bl F/\Sub σ.bl aA.bl/\cx.length=cs.length
 | [],vs,σ,aA,cx,ph,h,hr,ha=>by
  simp only[ek,aaQ.injEq,Prod.mk.injEq] at ha
  obtain⟨rfl,rfl⟩:=ha
  cases hr
  exact⟨bf,h,.nil _,λ_ h=>h.elim,Sub.refl _,rfl⟩
 | c::cs,vs,σ,aA,cx,ph,h,hr,ha=>by
  simp only[ek] at ha
  split at ha
  ·rename_i c1 aR h1
   split at ha
   ·rename_i l1 bo h2
    simp only[aaQ.injEq,Prod.mk.injEq] at ha
    obtain⟨rfl,rfl⟩:=ha
    cases hr with
    | cons c l v vs hc ht=>
     obtain⟨F1,iW,hV,TD,Oi⟩:=CJ h hc h1
     obtain⟨F2,zf,hL,Z1,TE,hlen⟩:=lO iW ht h2
     have hd:∀ b,F1 b->¬ F2 b:=by
      intro b gg sS
      obtain⟨d1,c1,cN,ej,iI⟩:=TD b gg
      obtain⟨d2,c2,dO,nG,vA⟩:=Z1 b sS
      obtain⟨Z2,Sj,_⟩:=Oi d2 c2 dO
      have hne:d1≠d2:=λhe=>by subst he;rw[ej] at dO;cases dO
      exact h.bX _ _ _ _ cN Sj hne b iI vA
     refine⟨λb=>F1 b\/F2 b,zf,.cons _ _ _ _ F1 F2 _ hV hL (λ_ h=>.inl h) (λ_ h=>.inr h) hd,?_,Oi.trans TE,by simp[hlen]⟩
     intro x hx
     rcases hx with hx | hx
     ·obtain⟨d1,c1,cN,ej,iI⟩:=TD x hx
      refine⟨d1,c1,cN,?_,iI⟩
      cases hq:av bo.bl d1 with
      | none=>rfl
      | some q=>obtain⟨q',pV,_⟩:=TE d1 q hq;rw[ej] at pV;cases pV
     obtain⟨d2,c2,dO,nG,vA⟩:=Z1 x hx
     obtain⟨Z2,Sj,_⟩:=Oi d2 c2 dO
     exact⟨d2,Z2,Sj,nG,vA⟩
   cases ha
  cases ha
theorem bE.set :∀{l:List PV} {vs:List Value} {G:Ft},bE w I l vs G->∀(k:Nat) {c:PV} {v:Value} {F:Ft},dj w I c v F->(∀ b,F b->¬ G b)->bE w I (bT l k c) (vs.set k v) (λb=>G b\/F b)
 | _,_,_,.nil _,_,_,_,_,_,_=>.nil _
 | _,_,_,.cons c0 l v0 vs F0 G0 H h t hF hG d,0,c,v,F,hc,hd=>.cons _ _ _ _ F G0 _ hc t (λ_ h=>.inr h) (λb h=>.inl (hG b h)) (λb h1 h2=>hd b h1 (hG b h2))
 | _,_,_,.cons c0 l v0 vs F0 G0 H h t hF hG d,k+1,c,v,F,hc,hd=>
  .cons _ _ _ _ F0 (λb=>G0 b\/F b) _ h (t.set k hc (λb h1 h2=>hd b h1 (hG b h2))) (λb h=>.inl (hF b h)) (λb h=>h.elim (λh=>.inl (hG b h)) .inr)
   (λb h1 h2=>h2.elim (d b h1) (λh3=>hd b h3 (hF b h1)))
theorem bE.fb :∀{cs:List PV} {us:List Value} {F:Ft},bE w I cs us F->∀{l:List PV} {vs:List Value} {G:Ft} (j:Nat),bE w I l vs G->(∀ b,F b->¬ G b)->bE w I (gR l j cs) (hZ vs j us) (λb=>G b\/F b)
 | _,_,_,.nil _,_,_,_,_,h,_=>h.mono (λ_ h=>.inl h)
 | _,_,_,.cons c l0 v vs0 F0 G0 H hc t hF hG d,l,vs,G,j,h,hd=>
  ((bE.fb t (j+1) (h.set j hc (λb h1 h2=>hd b (hF b h1) h2)) (λb h1 h2=>h2.elim (hd b (hG b h1)) (λh3=>d b h3 h1)))).mono
   (λb h=>h.elim (λh=>h.elim .inl (λh=>.inr (hF b h))) (λh=>.inr (hG b h)))
theorem yu :∀(us l:List Value) (j:Nat),j+us.length<=l.length->hZ l j us=l.take j++us++l.drop (j+us.length)
 | [],l,j,_=>by simp[hZ]
 | u::us,l,j,h=>by
  simp only[aa5] at h
  rw[hZ,yu us (l.set j u) (j+1) (by simp;omega)]
  apply List.ext_getElem?
  intro k
  have hjl:j < l.length:=by omega
  simp only[List.getElem?_append,aa1,List.length_set,aaY,aa5,abz,List.getElem?_set,List.getElem?_drop]
  by_cases h1:k < j
  ·rw [if_pos (by omega),if_pos (by omega),if_pos (by omega),if_neg (by omega),if_pos (by omega),if_pos (by omega),if_pos (by omega)]
  by_cases h2:k=j
  ·subst h2
   rw[if_pos (by omega),if_pos (by omega),if_pos (by omega),if_pos rfl,if_pos (by omega),if_pos (by omega),if_neg (by omega)]
   simp[Nat.min_eq_left (Nat.le_of_lt hjl)]
  by_cases h3:k < j+1+us.length
  ·rw [if_pos (by omega),if_neg (by omega),if_pos (by omega),if_neg (by omega)]
   rw[show k - min j l.length=(k - min (j+1) l.length)+1 by omega]
   simp
  rw[if_neg (by omega),if_neg (by omega),if_neg (by omega)]
  congr 1
  omega
theorem wJ {sz:Nat}:∀(rows:List (List PV)),(∀ r∈rows,r.length=sz)->∀(a:Nat) (r:List PV),rows[a]? =some r->∀(k:Nat) (c:PV),k < r.length->(rows.set a (bT r k c)).flatten=bT rows.flatten (a * sz+k) c
 | [],_,a,r,h,_,_,_=>by simp at h
 | r0::rows,hu,0,r,h,k,c,hk=>by
  simp at h
  subst h
  simp only[List.set_cons_zero,abD,ab0,abj,B1]
  rw[List.set_append_left _ _ hk]
 | r0::rows,hu,a+1,r,h,k,c,hk=>by
  have hl:r0.length=sz:=hu r0 (by simp)
  simp only[List.set_cons_succ,abD]
  rw[wJ rows (λr hr=>hu r (by simp[hr])) a r (by simpa using h) k c hk]
  simp only[B1]
  rw[List.set_append_right _ _ (by rw[hl,ab7];omega)]
  congr 2
  rw[hl,ab7]
  omega
theorem Az {sz:Nat}:∀(cs:List PV) (rows:List (List PV)),(∀ r∈rows,r.length=sz)->∀(a:Nat) (r:List PV),rows[a]? =some r->∀(j:Nat),j+cs.length<=r.length->
  (rows.set a (gR r j cs)).flatten=gR rows.flatten (a * sz+j) cs
 | [],rows,hu,a,r,h,j,_=>by
  simp only[gR]
  congr 1
  apply List.ext_getElem?
  intro k
  rw[List.getElem?_set]
  split
  ·rename_i hk;subst hk;have:=(aaZ.1 h).1;rw[if_pos this,h]
  rfl
 | c::cs,rows,hu,a,r,h,j,hj=>by
  simp only[aa5] at hj
  have ha:=(aaZ.1 h).1
  simp only[gR]
  have nT:(rows.set a (bT r j c))[a]? =some (bT r j c):=by rw[List.getElem?_set,if_pos rfl,if_pos ha]
  have sU:∀ r'∈rows.set a (bT r j c),r'.length=sz:=by
   intro r' fT
   rcases abW fT with h1 | h1
   ·exact hu r' h1
   rw[h1,kK];exact hu r (abx h)
  have:=Az cs (rows.set a (bT r j c)) sU a (bT r j c) nT (j+1) (by rw[kK];omega)
  rw[List.set_set] at this
  rw[this,wJ rows hu a r h j c (by omega)]
  rw[show a * sz+(j+1)=a * sz+j+1 by omega]
theorem bz.Ez (h:bz B W0 I0 I val fs σ a w){d:Nat}{b b':aO}(hd:av σ.bl d=some b)(hk:b'.k=b.k)(hz:b'.sz=b.sz)(hsame:∀ x,¬ fs d x->w'.heap[x]? =w.heap[x]?)(hb:Kept B w w'){F:Ft}
    (hB:iU w' I val (cg σ.bl d b') b' (val d) F) (hF:∀ x,F x->B x/\x < w'.heap.size) (hI:∀ x,F x->¬ I x) (hO:∀ x,F x->∀ e c,e≠d->av σ.bl e=some c->¬ fs e x):
    bz B W0 I0 I val (eD fs d F) {σ with bl:=cg σ.bl d b'} a w':=by
  have hE:Ext σ.bl (cg σ.bl d b') val val:=by
    intro e c he
    refine⟨?_,rfl⟩
    by_cases h0:d=e
    · subst h0
      rw[hd] at he
      cases he
      exact⟨b',by rw[ct,if_pos rfl],hz,hk⟩
    · exact⟨c,by rw[ct,if_neg h0];exact he,rfl,rfl⟩
  have AA:bw I w w':=λx hx=>hsame x (λhf=>h.dt d b hd x hf hx)
  have look:∀ e c,av (cg σ.bl d b') e=some c->(e=d/\c=b')\/(e≠d/\av σ.bl e=some c):=by
    intro e c he
    rw[ct] at he
    by_cases h0:d=e
    · rw[if_pos h0] at he;exact .inl ⟨h0.symm,by simpa using he.symm⟩
    · rw[if_neg h0] at he;exact .inr ⟨abG h0,he⟩
  refine{cC:=aG.frame AA (λ_ h=>h) hE h.cC,blocks:=λe c he=>?_,bX:=λe e' c c' he lu hne x hx aX=>?_,dt:=λe c he x hx=>?_,
           new:=λe c he x hx=>?_,lt:=λx hx=>abg (h.lt x hx) hb.size,eJ:=h.eJ,below:=h.below.trans hb,size:=λx hx=>h.size x (acf hb.size hx),dP:=λe v he=>?_,defers:=h.defers}
  · rcases look e c he with ⟨rfl,rfl⟩ | ⟨hne,he⟩
    · rw[cb];exact hB
    · rw[di _ _ hne]
      exact(h.blocks e c he).frame AA (λ_ h=>h) hE (λx hx=>hsame x (λhf=>h.bX _ _ _ _ he hd hne x hx hf))
  · rcases look e c he with ⟨rfl,rfl⟩ | ⟨ej,h1⟩<;>rcases look e' c' lu with ⟨rfl,rfl⟩ | ⟨nG,h2⟩
    · exact hne rfl
    · rw[cb] at hx;rw[di _ _ nG] at aX;exact hO x hx _ _ nG h2 aX
    · rw[cb] at aX;rw[di _ _ ej] at hx;exact hO x aX _ _ ej h1 hx
    · rw[di _ _ ej] at hx;rw[di _ _ nG] at aX;exact h.bX _ _ _ _ h1 h2 hne x hx aX
  · rcases look e c he with ⟨rfl,rfl⟩ | ⟨ej,h1⟩
    · rw[cb] at hx;exact hI x hx
    · rw[di _ _ ej] at hx;exact h.dt _ _ h1 x hx
  · rcases look e c he with ⟨rfl,rfl⟩ | ⟨ej,h1⟩
    · rw[cb] at hx;exact hF x hx
    · rw[di _ _ ej] at hx;exact⟨(h.new _ _ h1 x hx).1,abg (h.new _ _ h1 x hx).2 hb.size⟩
  · obtain⟨h1,c,hc⟩:=h.dP e v he
    exact⟨h1,by obtain⟨⟨c',mz,_⟩,_⟩:=hE e c hc;exact⟨c',mz⟩⟩
theorem AB (w:World){g:Nat}(hg:B g)(cs:Array Value):Kept B w (w.setRow g cs):=
 ⟨rfl,rfl,rfl,by simp,λk hk=>setRow_other w g k cs (λh=>hk (h ▸ hg))⟩
theorem zj {t:TypeId}{inf:TypeInfo}(hi:P.info? t=some inf){v:Value}(hv:v.cells.size=inf.size){g o:Nat}{cur:Array Value}{e:TypeId}(hg:w.heap[g]? =some (.cells cur e (0,0)))
  (hfit:o+v.cells.size<=cur.size) (h1:∀ u∈v.cells.toList,u.oneCell'=true):
  (storeVar t ⟨g,o,none⟩ v).run P w=.ok () (w.setRow g (hZ cur.toList o v.cells.toList).toArray):=by
 have hs:=run_storeCells_at P g o e v.cells.toList 0 cur w hg (by simpa using hfit) h1
 rw[yu _ _ _ (by simpa using hfit)]
 simp only[ack] at hs
 simp[storeVar,sizeOf,typeInfo,hi,program,Sem.run,hv,hs]
theorem mE :∀{l:List PV} {vs:List Value} {F:Ft},bE w I l vs F->∀ v∈vs,v.oneCell'=true
 | _,_,_,.nil _,v,hv=>by simp at hv
 | _,_,_,.cons c l u vs F G H h t _ _ _,v,hv=>by
  rcases List.mem_cons.1 hv with rfl | hv
  ·cases h with
   | ow sz rows v e xs F G hu how hr hG hb=>rcases how.2 with ⟨h1,_⟩ | ⟨g,cap,cur,h1,_⟩<;>rw[h1]<;>rfl
   | aa v F h1=>exact h1
   | raw v F h1=>exact h1
   | _=>rfl
  exact mE t v hv
theorem Ku :∀(us l:List Value) (j:Nat) (u:Value),u∈hZ l j us->(∀ x∈l,x.oneCell'=true)->(∀ x∈us,x.oneCell'=true)->u.oneCell'=true
 | [],l,j,u,h,hl,_=>hl u h
 | c::us,l,j,u,h,hl,hu=>Ku us (l.set j c) (j+1) u h (λx hx=>by
   rcases abW hx with h1 | h1
   ·exact hl x h1
   rw[h1];exact hu c (by simp)) (λx hx=>hu x (by simp[hx]))
theorem P3 {c:PV}{v:Value}(hso:F8 val σ.bl)(h:bI w I val σ.bl c v){r:List PV × St}(ha:ek σ (cellsOf c)=some r):aG w I val σ.bl (cellsOf c) v.cells.toList:=by
 cases h with
 | leaf c v hl h=>
  have hc:cellsOf c=[c]:=by cases c<;>first | rfl | simp[bG] at hl
  rw[hc,(Dh hl h).1];exact .cons _ _ _ _ (.leaf c v hl h) .nil
 | own d b hb hk=>rw[(hso d b hb hk).1];exact .cons _ _ _ _ (.own d b hb hk) .nil
 | agg cs vs h=>simpa [cellsOf,Value.cells] using h
 | pt d i j b g hb hg=>simp[cellsOf,ek,dD,bG] at ha
 | rd cs a0 vs hI hs hc hr=>simp[cellsOf,ek,dD,bG] at ha
 | aw cs vs h=>simp[cellsOf,ek,dD,bG] at ha
 | fn f cs vs h=>simp[cellsOf,ek,dD,bG] at ha
 | aa v=>simp[cellsOf,ek,dD,bG] at ha
theorem Oj {us l:List Value}{o m:Nat}(h:o+us.length<=m)(hm:m<=l.length):(hZ l o us).take m=hZ (l.take m) o us:=by
 rw[yu us l o (by omega),yu us (l.take m) o (by simp;omega)]
 rw[List.take_append,List.take_append,List.take_take,List.drop_take]
 simp only[aaY,aa1,List.take_take]
 rw[show min o m=o by omega,show min m o=o by omega,show min o l.length=o by omega]
 rw[List.take_of_length_le (by omega:us.length<=m - o)]
theorem AD (us:List Value):∀(l:List Value) (o:Nat),(hZ l o us).length=l.length:=by
 induction us with
 | nil=>intro l o;rfl
 | cons u us ih=>intro l o;simp[hZ,ih]
theorem NZ (hT:fa P T)(h:bz B W0 I0 I val fs σ a w){t:TypeId}{x y:Operand}(ho:o.op=.store t x y)(hdst:o.dst=none)(hs:pS T σ t (σ.get x) (σ.get y)=some aA):fR P B W0 I0 o a w aA:=by
 have ex:=h.eval x
 have ey:=h.eval y
 unfold pS at hs
 split at hs
 ·rename_i i ht
  obtain⟨inf,z,hi,hsz,hby,hz,hzr,hzl,hza,hk⟩:=hT _ _ ht
  split at hs
  ·rename_i d a0 j hx
   rw[hx] at ex
   generalize hv:a.eval x=v at ex
   cases ex with
   | leaf c v hl h=>cases hl
   | pt d i' j' b g hb hg=>
    split at hs
    ·rename_i hlen
     have hlen:=eZ hlen
     split at hs
     ·rename_i sz r hbd
      rw[hb] at hbd
      cases hbd
      split at hs
      ·rename_i hc
       simp only[aaR] at hc
       obtain⟨⟨jI,aJ⟩,mi⟩:=hc
       have aJ:=eZ aJ
       have mi:=wZ mi
       subst aJ
       simp only[aaQ.injEq] at hs
       subst hs
       have hy:=vk h.uf ey jI
       have hyl:(a.eval y).cells.size=i.size:=by have:=hy.len;simp at this;omega
       obtain⟨g',hvd,T',c,hfg,hh,hsl,hrl,hones⟩:=h.blocks d _ hb
       rw[hvd] at hg
       simp[jJ] at hg
       subst hg
       have hcl:c.size=r.length:=by have:=hsl.len;simpa using this
       have hrun:=zj (P:=P) hi (v:=a.eval y) (by rw[hyl,hsz]) (o:=0 * sz+j) hh (by omega) (pU h.uf hy jI)
       rw[ab0,abj] at hrun
       have hB:=(h.new d _ hb _ hfg).1
       have hbel:=AB (B:=B) w hB (hZ c.toList j (a.eval y).cells.toList).toArray
       have MF:∀ x',x'≠g'->(w.setRow g' (hZ c.toList j (a.eval y).cells.toList).toArray).heap[x']? =w.heap[x']? :=λx' aX=>setRow_other w g' x' _ aX
       have hrel:aG (w.setRow g' (hZ c.toList j (a.eval y).cells.toList).toArray) I val (cg σ.bl d ⟨.var,sz,[gR r j (cellsOf (σ.get y))]⟩) (gR r j (cellsOf (σ.get y))) (hZ c.toList j (a.eval y).cells.toList):=by
        refine aG.frame (λx' aX=>MF x' (λhe=>h.dt d _ hb _ (he ▸ hfg) aX)) (λ_ h=>h) ?_ (hy.fb j hsl)
        intro e c' he
        refine⟨?_,rfl⟩
        by_cases h0:d=e
        ·subst h0;rw[hb] at he;cases he;exact⟨⟨.var,sz,[gR r j (cellsOf (σ.get y))]⟩,by rw[ct,if_pos rfl],rfl,rfl⟩
        exact⟨c',by rw[ct,if_neg h0];exact he,rfl,rfl⟩
       have hset:=h.Ez hb (b':=⟨.var,sz,[gR r j (cellsOf (σ.get y))]⟩) rfl rfl (λx' aX=>MF x' (λhe=>aX (he ▸ hfg))) hbel (F:=fs d)
        ⟨g',hvd,T',_,hfg,setRow_heap w g' c _ T' (0,0) hh,by simpa using hrel,by rw[uh];exact hrl,λu hu=>Ku _ _ _ u (by simpa using hu) hones (pU h.uf hy jI)⟩
        (λx' aX=>by have:=h.new d _ hb _ aX;simpa using this) (h.dt d _ hb) (λx' aX e c' hne he=>h.bX _ _ _ _ hb he (abG hne) x' aX)
       refine⟨undef,w.setRow g' (hZ c.toList j (a.eval y).cells.toList).toArray,.inr ⟨by simp[execOp,ho,hv,Instr.storeAt,Instr.sureAddr,hrun],rfl⟩,?_⟩
       rw[hdst]
       exact⟨I,_,_,hset⟩
      cases hs
     ·rename_i fI YU hbd
      rw[hb] at hbd
      cases hbd
      split at hs
      ·rename_i cs aR habs
       split at hs
       ·rename_i sz rows gg
        split at hs
        ·rename_i r hr
         split at hs
         ·rename_i hfit
          have hfit:=wZ hfit
          simp only[aaQ.injEq] at hs
          subst hs
          have hcells:=P3 h.uf ey habs
          obtain⟨F,iW,zm,hgone,hsub,hclen⟩:=lO h hcells habs
          obtain⟨b0,jm,Sk,Kv⟩:=hsub d _ gg
          rw[hb] at jm
          cases jm
          have Sk:fI=sz:=Sk
          subst Sk
          obtain⟨e,xs,G,hu,how,hR,hG,hob⟩:=iW.blocks d _ gg
          have hrl:=hu r (abx hr)
          have xk:=(aaZ.1 hr).1
          rcases how.2 with ⟨hvd,hn⟩ | ⟨g',cap,cur,hvd,_,hh,hnc,hcm,hcs,htake⟩
          ·omega
          rw[hvd] at hg hob
          simp[jJ] at hg
          subst hg
          have CK:=hob g' rfl
          have hyl:(a.eval y).cells.size=i.size:=by have:=hcells.len;simp at this;omega
          have hacc:(a0+1) * fI<=rows.length * fI:=acu _ xk
          rw[ab7] at hacc
          have hcapm:rows.length * fI<=cap * fI:=acu _ hnc
          have hrun:=zj (P:=P) hi (v:=a.eval y) (by rw[hyl,hsz]) (o:=a0 * fI+j) hh (by omega) (mE zm)
          have hB:=(iW.new d _ gg _ CK.1).1
          have hbel:=AB (B:=B) w hB (hZ cur.toList (a0 * fI+j) (a.eval y).cells.toList).toArray
          have MF:∀ x',x'≠g'->(w.setRow g' (hZ cur.toList (a0 * fI+j) (a.eval y).cells.toList).toArray).heap[x']? =w.heap[x']? :=λx' aX=>setRow_other w g' x' _ aX
          have xl:∀ x',F x'->¬ fs d x':=by
           intro x' aX hf
           obtain⟨d1,c1,cN,ej,iI⟩:=hgone x' aX
           exact h.bX _ _ _ _ cN hb (λhe=>by subst he;rw[ej] at gg;cases gg) x' iI hf
          have Ol:=zm.fb (a0 * fI+j) hR (λx' aX Aq=>xl x' aX (hG x' Aq))
          have hrel:=bE.frame (w':=w.setRow g' (hZ cur.toList (a0 * fI+j) (a.eval y).cells.toList).toArray) (I':=I) (λx' aX=>MF x' (λhe=>iW.dt d _ gg _ CK.1 (he ▸ aX))) (λ_ h=>h) Ol
           (λx' aX=>MF x' (λhe=>aX.elim (λh1=>CK.2 (he ▸ h1)) (λh1=>xl x' h1 (he ▸ CK.1))))
          have hfl:(rows.set a0 (gR r j cs)).flatten=gR rows.flatten (a0 * fI+j) cs:=Az cs rows hu a0 r hr j (by omega)
          rw[<- hfl] at hrel
          have hxl:xs.length=rows.length * fI:=how.1
          have YV:iz (w.setRow g' (hZ cur.toList (a0 * fI+j) (a.eval y).cells.toList).toArray) 0 e fI (.slice (some ⟨g',0,none⟩) rows.length cap) (rows.set a0 (gR r j cs)).length (hZ xs (a0 * fI+j) (a.eval y).cells.toList):=by
           rw[List.length_set]
           refine⟨by rw[AD];exact how.1,.inr ⟨g',cap,_,rfl,aaW _,setRow_heap w g' cur _ e (0,0) hh,hnc,hcm,by simpa [AD] using hcs,?_⟩⟩
           rw[<- htake]
           exact Oj (by simp;omega) (by simp;omega)
          have hset:=iW.Ez (b:=⟨.arr,fI,rows⟩) gg (b':=⟨.arr,fI,rows.set a0 (gR r j cs)⟩) rfl rfl (λx' aX=>MF x' (λhe=>aX (he ▸ CK.1))) hbel (F:=λx'=>fs d x'\/F x')
           ⟨e,_,_,λr' nT=>by
             rcases abW nT with h1 | h1
             ·exact hu r' h1
             ·rw [h1,uh];exact hrl,by rw[hvd];exact YV,hrel,λx' aX=>aX.elim (λh1=>.inl (hG x' h1)) .inr,
            λx' aX=>by
             rw[hvd] at aX
             simp[Value.ownBlock] at aX
             subst aX
             exact⟨.inl CK.1,λh1=>h1.elim CK.2 (λh2=>xl _ h2 CK.1)⟩⟩
           (λx' aX=>by
            rcases aX with aX | aX
            ·simpa using iW.new d _ gg _ aX
            obtain⟨d1,c1,cN,ej,iI⟩:=hgone x' aX
            simpa using h.new _ _ cN _ iI)
           (λx' aX=>by
            rcases aX with aX | aX
            ·exact iW.dt d _ gg _ aX
            obtain⟨d1,c1,cN,ej,iI⟩:=hgone x' aX
            exact h.dt _ _ cN _ iI)
           (λx' aX e' c' hne he=>by
            rcases aX with aX | aX
            ·exact iW.bX _ _ _ _ gg he (abG hne) x' aX
            obtain⟨d1,c1,cN,ej,iI⟩:=hgone x' aX
            obtain⟨c0,AF,_⟩:=hsub e' c' he
            exact h.bX _ _ _ _ cN AF (λh0=>by subst h0;rw[ej] at he;cases he) x' iI)
          refine⟨undef,w.setRow g' (hZ cur.toList (a0 * fI+j) (a.eval y).cells.toList).toArray,.inr ⟨by simp[execOp,ho,hv,Instr.storeAt,Instr.sureAddr,hrun],rfl⟩,?_⟩
          rw[hdst]
          exact⟨I,_,_,hset⟩
         cases hs
        cases hs
       cases hs
      cases hs
     cases hs
    cases hs
  cases hs
 cases hs
def Src (w:World)(v:Value)(m:Nat)(news:List Value):Prop:=
 (∃ ad c,v=.slice (some ad) m c/\∀(j:Nat) (u:Value),news[j]? =some u->w.cell? (ad.add j)=some u)\/(v=.slice none 0 0/\m=0/\news=[])
theorem xm {t ty e e0:TypeId}{inf:TypeInfo}{z:Value}(ht:P.underlying t=some (.slice e))(hi:P.info? e=some inf)(hz:inf.zero=some z)(hzs:z.cells.size=inf.size)
  {v v2:Value} {n m:Nat} {xs news:List Value} (hown:iz w 0 e0 inf.size v n xs) (hsrc:Src w v2 m news) (hl:news.length=m * inf.size) (h1:∀ u∈news,u.oneCell'=true)
  (hsz:0 < inf.size) (hbytes:(n+m) * inf.bytes<=140737488355328) (hbp:0 < inf.bytes):
  ∃ v' w' e1,(Builtin.append_ #[t,t] ty #[v,v2]).run P w=.ok v' w'/\iz w' 0 e1 inf.size v' (n+m) (xs++news)/\w.grownBy w' v.ownBlock/\(∀ g,v'.ownBlock=some g->v.ownBlock=some g\/w.heap.size<=g):=by
 have hnm:n+m<=140737488355328:=acf (Nat.le_mul_of_pos_right _ hbp) hbytes
 have h63:n+m<=maxLen:=by simp only[maxLen];omega
 have hlen:(xs++news).length=(n+m) * inf.size:=by rw[aaY,hown.1,hl,Nat.add_mul]
 have same:v2.ownBlock=v2.ownBlock:=rfl
 have keep:∀(hm:m=0),(Builtin.append_ #[t,t] ty #[v,v2]).run P w=.ok v w->∃ v' w' e1,(Builtin.append_ #[t,t] ty #[v,v2]).run P w=.ok v' w'/\iz w' 0 e1 inf.size v' (n+m) (xs++news)/\w.grownBy w' v.ownBlock/\(∀ g,v'.ownBlock=some g->v.ownBlock=some g\/w.heap.size<=g):=by
  intro hm hr
  have CL:news=[]:=abJ (by rw[hl,hm,ab0])
  refine⟨v,w,e0,hr,by rw[CL,hm];simpa using hown,⟨rfl,rfl,rfl,abr _,λ_ _ _=>rfl⟩,λg hg=>.inl hg⟩
 have grown:∀(eJ:Nat),eJ < n+m->∀(row:Option Nat),
   iz (w.drew.alloc (.cells (xs.toArray++news.toArray++Builtin.zeroCells z.cells (grownCap w (n+m) eJ e - (n+m))) e)) 0 e inf.size
    (.slice (some ⟨w.heap.size,0,none⟩) (n+m) (grownCap w (n+m) eJ e)) (n+m) (xs++news)/\
   w.grownBy (w.drew.alloc (.cells (xs.toArray++news.toArray++Builtin.zeroCells z.cells (grownCap w (n+m) eJ e - (n+m))) e)) row:=by
  intro eJ hold row
  have vw:=grownCap_ge w (n+m) eJ e
  refine⟨⟨hlen,.inr ⟨w.heap.size,_,_,rfl,aaW _,heap_alloc_new w.drew _,vw,grownCap_le_maxLen w (n+m) eJ e h63,?_,?_⟩⟩,⟨rfl,rfl,rfl,by simp,λk hk _=>heap_alloc_old w.drew _ hk⟩⟩
  ·refine Nat.le_of_eq (Eq.symm ?_)
   simp only[Array.size_append,List.size_toArray,size_zeroCells,hzs,hown.1,hl,<- Nat.add_mul]
   congr 1
   omega
  simp only[Array.toList_append,List.append_assoc]
  rw[<- List.append_assoc,<- hlen]
  exact List.take_left
 rcases hsrc with ⟨ad,c,rfl,hnews⟩ | ⟨rfl,rfl,rfl⟩
 ·rcases hown.2 with ⟨rfl,CL⟩ | ⟨g,cap,cur,rfl,_,hg,hnc,hcm,hcs,htake⟩
  ·subst CL
   by_cases hm:m=0
   ·subst hm
    refine keep rfl ?_
    simp[Builtin.append_,run_underlying ht,sizeOf,typeInfo,hi,Builtin.lenOf,Builtin.firstCells,loadCells,loadCellsFrom]
   have hx:xs=[]:=abJ (by simpa using hown.1)
   subst hx
   have hr:=run_append_nil (P:=P) w t ty e inf z ht hi hz ad m c news hl hnews (by omega) (by omega) (by simp only[abj] at hbytes;omega)
   have hgr:=grown 0 (by omega) (Value.ownBlock (.slice none 0 0))
   simp only[abj,abv,Array.empty_append] at hgr ⊢
   exact⟨_,_,e,hr,hgr.1,hgr.2,λg hg=>.inr (by simp[Value.ownBlock] at hg;omega)⟩
  by_cases hroom:n+m<=cap
  ·have hfit:n * inf.size+0+news.length<=cur.size:=acf (by rw[hl,ack,<- Nat.add_mul];exact acu _ hroom) hcs
   have hf:=run_firstCells_some (P:=P) w inf.size m ad m c news hl hnews
   have hst:=run_storeCells_at P g (n * inf.size) e0 news 0 cur w hg hfit h1
   simp only[ack] at hst hfit
   have hr:(Builtin.append_ #[t,t] ty #[.slice (some ⟨g,0,none⟩) n cap,.slice (some ad) m c]).run P w=
     .ok (.slice (some ⟨g,0,none⟩) (n+m) cap) (w.setRow g (cur.toList.take (n * inf.size)++news++cur.toList.drop (n * inf.size+news.length)).toArray):=by
    simp[Builtin.append_,run_underlying ht,sizeOf,typeInfo,hi,Builtin.lenOf,hroom,hf,Addr.add_lit,hst]
   refine⟨_,_,e0,hr,⟨hlen,.inr ⟨g,cap,_,rfl,aaW _,setRow_heap w g cur _ e0 _ hg,hroom,hcm,?_,?_⟩⟩,⟨rfl,rfl,rfl,by simp,λk _ hk=>setRow_other w g k _ (λe=>hk (by simp[Value.ownBlock,e]))⟩,λg' Aq=>.inl Aq⟩
   ·simp only[List.size_toArray,aaY,aa1,List.length_drop,Array.length_toList]
    omega
   rw[htake,<- hlen]
   exact List.take_left
  have holds:∀ j u,xs[j]? =some u->w.cell? ((⟨g,0,none⟩:Addr).add j)=some u:=hown.cells (g:=g) rfl
  have hr:=run_append_grow (P:=P) w t ty e inf z ht hi hz ⟨g,0,none⟩ n cap xs hown.1 holds ad m c news hl hnews (by omega) (by omega) (growslice_fits (by omega) hbytes)
  have hgr:=grown cap (by omega) (Value.ownBlock (.slice (some ⟨g,0,none⟩) n cap))
  exact⟨_,_,e,hr,hgr.1,hgr.2,λg' Aq=>.inr (by simp[Value.ownBlock] at Aq;omega)⟩
 refine keep rfl ?_
 rcases hown.2 with ⟨rfl,CL⟩ | ⟨g,cap,cur,rfl,_,hg,hnc,hcm,hcs,htake⟩
 ·simp [Builtin.append_,run_underlying ht,sizeOf,typeInfo,hi,Builtin.lenOf,Builtin.firstCells,loadCells,loadCellsFrom]
 simp[Builtin.append_,run_underlying ht,sizeOf,typeInfo,hi,Builtin.lenOf,Builtin.firstCells,loadCells,loadCellsFrom,hnc,storeCells]
theorem Om (h:bz B W0 I0 I val fs σ a w){c:PV}{v:Value}(hc:bI w I val σ.bl c v){sz:Nat}{news:List (List PV)}(hn:mX σ sz c=some (news,aA)):
  ∃ F us,bz B W0 I0 I val fs aA a w/\Src w v news.length us/\bE w I news.flatten us F/\(∀ r∈news,r.length=sz)/\oi fs σ.bl aA.bl F/\Sub σ.bl aA.bl/\(∀ u∈us,u.oneCell'=true):=by
 unfold mX at hn
 split at hn
 ·rename_i d
  have hvd:v=val d:=by cases hc with
   | leaf c v hl h=>cases hl
   | own d b hb hk=>rfl
  subst hvd
  split at hn
  ·rename_i oS rows hb
   cases hz:nq oS sz with
   | false=>simp[hz] at hn
   | true=>
    have hz:=eZ hz
    subst hz
    simp only[beq_true,cond_true,aaQ.injEq,Prod.mk.injEq] at hn
    obtain⟨rfl,rfl⟩:=hn
    obtain⟨e,xs,G,hu,how,hR,hG,hob⟩:=h.blocks d _ hb
    refine⟨fs d,xs,h.drop d,?_,hR.mono hG,hu,λx hx=>⟨d,_,hb,?_,hx⟩,rB σ.bl d,mE hR⟩
    ·rcases how.2 with ⟨h1,h2⟩ | ⟨g,cap,cur,h1,_⟩
     ·have hx:xs=[]:=abJ (by rw[how.1,h2,ab0])
      exact .inr ⟨h1,h2,hx⟩
     exact .inl ⟨⟨g,0,none⟩,cap,h1,how.cells (by rw[h1];rfl)⟩
    show av (fX d (iC σ.bl d)) d=none
    rw[gw,gb,if_pos rfl];rfl
  ·rename_i oS r hb
   cases hz:nq oS sz with
   | false=>simp[hz] at hn
   | true=>
    have hz:=eZ hz
    subst hz
    simp only[beq_true,cond_true] at hn
    split at hn
    ·rename_i r' aR habs
     simp only[aaQ.injEq,Prod.mk.injEq] at hn
     obtain⟨rfl,rfl⟩:=hn
     obtain⟨g,hvd,_,T',c',hfg,hh,hsl,hrl,_⟩:=h.blocks d _ hb
     obtain⟨F,iW,zm,hgone,hsub,hclen⟩:=lO (h.drop d) hsl habs
     refine⟨F,c'.toList,iW,.inl ⟨⟨g,0,none⟩,1,hvd,λj u hj=>?_⟩,by simpa using zm,λr0 dQ=>?_,λx hx=>?_,(rB σ.bl d).trans hsub,mE zm⟩
     ·rw [Addr.add_mid,abj,cell_of_row w g j c' T' (0,0) hh];simpa using hj
     ·simp at dQ;subst dQ;rw[hclen];exact hrl
     obtain⟨d1,c1,cN,ej,iI⟩:=hgone x hx
     obtain⟨c0,AF,_⟩:=rB σ.bl d d1 c1 cN
     exact⟨d1,c0,AF,ej,iI⟩
    cases hn
  cases hn
 ·rename_i oS rows
  cases hz:nq oS sz with
  | false=>simp[hz] at hn
  | true=>
   have hz:=eZ hz
   subst hz
   simp only[beq_true,cond_true,aaQ.injEq,Prod.mk.injEq] at hn
   obtain⟨rfl,rfl⟩:=hn
   cases hc with
   | leaf c v hl hV=>
    cases hV with
    | slnil=>exact⟨bf,[],h,.inr ⟨rfl,rfl,rfl⟩,.nil _,λr hr=>by simp at hr,λ_ h=>h.elim,Sub.refl _,λu hu=>by simp at hu⟩
    | sl sz rows ad cap vs F hu hI hs hcell hr hcap=>exact⟨bf,vs,h,.inl ⟨ad,cap,rfl,hcell⟩,hr,hu,λ_ h=>h.elim,Sub.refl _,mE hr⟩
 ·simp only[aaQ.injEq,Prod.mk.injEq] at hn
  obtain⟨rfl,rfl⟩:=hn
  cases hc with
  | leaf c v hl hV=>
   cases hV with
   | zc=>exact⟨bf,[],h,.inr ⟨rfl,rfl,rfl⟩,.nil _,λr hr=>by simp at hr,λ_ h=>h.elim,Sub.refl _,λu hu=>by simp at hu⟩
 cases hn
theorem bz.MG (h:bz B W0 I0 I val fs σ a w){d sz:Nat}{rows dI:List (List PV)}(hd:av σ.bl d=some ⟨.arr,sz,rows⟩)
    (hsame:∀ x,x < w.heap.size->¬ fs d x->w'.heap[x]? =w.heap[x]?) (hb:Kept B w w') {v':Value} {F:Ft}
    (hB:yg w' I sz dI v' F) (hF:∀ x,F x->B x/\x < w'.heap.size) (hI:∀ x,F x->¬ I x) (hO:∀ x,F x->∀ e c,e≠d->av σ.bl e=some c->¬ fs e x):
    bz B W0 I0 I (eD val d v') (eD fs d F) {sl:=fp d σ.sl,bl:=cg (fX d σ.bl) d ⟨.arr,sz,dI⟩,hd:=iS σ.hd d} a w':=by
  have hv:∀ e,e≠d->eD val d v' e=val e:=λe he=>di _ _ he
  have hE:sH d σ.bl (cg (fX d σ.bl) d ⟨.arr,sz,dI⟩):=by
    intro e b hne hb
    refine⟨nJ d b,?_,(tS d b).2,(tS d b).1⟩
    rw[ct,if_neg (abG hne),gw,hb]
    rfl
  have AA:bw I w w':=λx hx=>hsame x (h.lt x hx) (λhf=>h.dt d _ hd x hf hx)
  have look:∀ e c,av (cg (fX d σ.bl) d ⟨.arr,sz,dI⟩) e=some c->(e=d/\c=⟨.arr,sz,dI⟩)\/(e≠d/\∃ b,av σ.bl e=some b/\c=nJ d b):=by
    intro e c he
    rw[ct] at he
    by_cases h0:d=e
    · rw[if_pos h0] at he;exact .inl ⟨h0.symm,by simpa using he.symm⟩
    · rw[if_neg h0,gw] at he
      cases hq:av σ.bl e with
      | none=>rw[hq] at he;cases he
      | some b=>rw[hq] at he;exact .inr ⟨abG h0,b,rfl,by simpa using he.symm⟩
  have hsl:aG w' I val σ.bl σ.sl a.tmps.toList:=aG.frame AA (λ_ h=>h) (Ext.refl _ _) h.cC
  refine{cC:=hsl.mS hE hv,blocks:=λe c he=>?_,bX:=λe e' c c' he lu hne x hx aX=>?_,dt:=λe c he x hx=>?_,
           new:=λe c he x hx=>?_,lt:=λx hx=>abg (h.lt x hx) hb.size,eJ:=h.eJ,below:=h.below.trans hb,size:=λx hx=>h.size x (acf hb.size hx),dP:=λe v he=>?_,defers:=h.defers}
  · rcases look e c he with ⟨rfl,rfl⟩ | ⟨hne,b,VK,rfl⟩
    · rw[cb,cb];exact hB
    · rw[di _ _ hne,di _ _ hne]
      have gg:=(h.blocks e b VK).frame (w':=w') AA (λ_ h=>h) (Ext.refl _ _) (λx hx=>hsame x (h.new e b VK x hx).2 (λhf=>h.bX _ _ _ _ VK hd hne x hx hf))
      exact gg.mS hE hv
  · rcases look e c he with ⟨rfl,rfl⟩ | ⟨ej,b1,h1,_⟩<;>rcases look e' c' lu with ⟨rfl,rfl⟩ | ⟨nG,b2,h2,_⟩
    · exact hne rfl
    · rw[cb] at hx;rw[di _ _ nG] at aX;exact hO x hx _ _ nG h2 aX
    · rw[cb] at aX;rw[di _ _ ej] at hx;exact hO x aX _ _ ej h1 hx
    · rw[di _ _ ej] at hx;rw[di _ _ nG] at aX;exact h.bX _ _ _ _ h1 h2 hne x hx aX
  · rcases look e c he with ⟨rfl,rfl⟩ | ⟨ej,b1,h1,_⟩
    · rw[cb] at hx;exact hI x hx
    · rw[di _ _ ej] at hx;exact h.dt _ _ h1 x hx
  · rcases look e c he with ⟨rfl,rfl⟩ | ⟨ej,b1,h1,_⟩
    · rw[cb] at hx;exact hF x hx
    · rw[di _ _ ej] at hx;exact⟨(h.new _ _ h1 x hx).1,abg (h.new _ _ h1 x hx).2 hb.size⟩
  · obtain⟨hne,he⟩:=sh he
    obtain⟨h1,c,hc⟩:=h.dP e v he
    obtain⟨c',mz,_⟩:=hE e c hne hc
    exact⟨by rw[di _ _ hne];exact h1,c',mz⟩
theorem Md (hT:fa P T)(h:bz B W0 I0 I val fs σ a w){t:TypeId}{x y:Operand}(ho:o.op=.call {callee:=.builtin .append,args:=#[x,y],argTypes:=#[t,t]})
  (hs:pF T σ o.dst t x y=some aA):fR P B W0 I0 o a w aA:=by
 unfold pF at hs
 split at hs
 ·rename_i dd e fI lX z0 hdd ht
  obtain⟨_,_,_,_,_,_,_,_,_,hk⟩:=hT _ _ ht
  have hk:P.underlying t=some (.slice e):=hk
  split at hs
  ·rename_i ie hte
   obtain⟨inf,z,hi,hsz,hby,hz,hzr,hzl,hza,_⟩:=hT _ _ hte
   have hzs:z.cells.size=inf.size:=by have:=(hzr w I).len;simp at this;omega
   split at hs
   ·rename_i news aR hnews
    obtain⟨F,us,iW,hsrc,zm,hun,hgone,hsub,hones⟩:=Om h (h.eval y) hnews
    have hlus:us.length=news.length * inf.size:=by
     rw[zm.len,hsz]
     clear hnews hsrc zm hs
     induction news with
     | nil=>simp
     | cons r l ih=>
      simp only[abD,aaY,aa5,ab7]
      rw[ih (λr hr=>hun r (by simp[hr])),hun r (by simp)]
      omega
    have ex:=iW.eval x
    split at hs
    ·rename_i d hx
     rw[hx] at ex
     split at hs
     ·rename_i sz rows hbd
      split at hs
      ·rename_i hc
       simp only[aaR,decide_eq_true_eq] at hc
       obtain⟨⟨⟨jI,aJ⟩,mi⟩,cL⟩:=hc
       have jI:=eZ jI
       simp only[aaQ.injEq] at hs
       subst hs
       subst jI
       have hvd:a.eval x=val d:=by
        generalize a.eval x=v at ex
        cases ex with
        | leaf c v hl h=>cases hl
        | own d b hb hk=>rfl
       obtain⟨e0,xs,G,hu,how,hR,hG,hob⟩:=iW.blocks d _ hbd
       obtain⟨v',w',e1,hrun,rC,hgr,hnew⟩:=xm (P:=P) (ty:=o.type) hk hi hz hzs (v:=val d) (v2:=a.eval y) (by rw[hsz];exact how) hsrc hlus hones (by omega) (by rw[hby];exact aJ) (by omega)
       rw[hsz] at rC
       have xl:∀ x',F x'->¬ fs d x':=by
        intro x' aX hf
        obtain⟨d1,c1,cN,ej,iI⟩:=hgone x' aX
        obtain⟨c0,AF,_⟩:=hsub d _ hbd
        exact h.bX _ _ _ _ cN AF (λhe=>by subst he;rw[ej] at hbd;cases hbd) x' iI hf
       have yv:∀ x',F x'->B x'/\x' < w.heap.size:=by
        intro x' aX
        obtain⟨d1,c1,cN,ej,iI⟩:=hgone x' aX
        exact h.new _ _ cN _ iI
       have VL:∀ x',F x'->¬ I x':=by
        intro x' aX
        obtain⟨d1,c1,cN,ej,iI⟩:=hgone x' aX
        exact h.dt _ _ cN _ iI
       have hobf:∀ k,(val d).ownBlock=some k->fs d k:=λk jl=>(hob k jl).1
       have hbel:Kept B w w':=NW hgr (λk jl=>(iW.new d _ hbd k (hobf k jl)).1) h.size
       have hsame:∀ x',x' < w.heap.size->¬ fs d x'->w'.heap[x']? =w.heap[x']? :=λx' aX P4=>hgr.block x' aX (λhe=>P4 (hobf x' he.symm))
       have Ol:bE w I (rows.flatten++news.flatten) (xs++us) (λb=>G b\/F b):=hR.append zm (λb gg sS=>xl b sS (hG b gg)) (λ_ h=>.inl h) (λ_ h=>.inr h)
       have hrel:bE w' I (rows++news).flatten (xs++us) (λb=>G b\/F b):=by
        rw[List.flatten_append]
        refine bE.frame (λx' aX=>hsame x' (h.lt x' aX) (λhf=>iW.dt d _ hbd x' hf aX)) (λ_ h=>h) Ol (λx' aX=>?_)
        refine hgr.block x' ?_ (λhe=>?_)
        ·rcases aX with aX | aX
         ·exact(iW.new d _ hbd x' (hG x' aX)).2
         exact(yv x' aX).2
        rcases aX with aX | aX
        ·exact(hob x' he.symm).2 aX
        exact xl x' aX (hobf x' he.symm)
       have aah:∀ k,v'.ownBlock=some k->k < w'.heap.size:=λk jl=>(rC.lt k jl).2
       have hset:=iW.MG hbd (w':=w') hsame hbel (v':=v') (dI:=rows++news) (F:=λx'=>fs d x'\/F x'\/v'.ownBlock=some x')
        ⟨e1,xs++us,_,λr hr=>by
          rcases List.mem_append.1 hr with h1 | h1
          ·exact hu r h1
          ·exact hun r h1,by rw[aaY];exact rC,hrel,λx' aX=>aX.elim (λh1=>.inl (hG x' h1)) (λh1=>.inr (.inl h1)),
         λx' aX=>⟨.inr (.inr aX),λh1=>by
          rcases hnew x' aX with h2 | h2
          ·exact h1.elim (hob x' h2).2 (λh3=>xl x' h3 (hobf x' h2))
          exact h1.elim (λh3=>by have:=(iW.new d _ hbd x' (hG x' h3)).2;omega) (λh3=>by have:=(yv x' h3).2;omega)⟩⟩
        (λx' aX=>by
         rcases aX with aX | aX | aX
         ·exact⟨(iW.new d _ hbd _ aX).1,abg (iW.new d _ hbd _ aX).2 hbel.size⟩
         ·exact⟨(yv x' aX).1,abg (yv x' aX).2 hbel.size⟩
         refine⟨?_,aah x' aX⟩
         rcases hnew x' aX with h2 | h2
         ·exact(iW.new d _ hbd _ (hobf x' h2)).1
         exact h.size _ h2)
        (λx' aX Kw=>by
         rcases aX with aX | aX | aX
         ·exact iW.dt d _ hbd _ aX Kw
         ·exact VL x' aX Kw
         rcases hnew x' aX with h2 | h2
         ·exact iW.dt d _ hbd _ (hobf x' h2) Kw
         have:=h.lt x' Kw;omega)
        (λx' aX e' c' hne he hf=>by
         rcases aX with aX | aX | aX
         ·exact iW.bX _ _ _ _ hbd he (abG hne) x' aX hf
         ·obtain⟨d1,c1,cN,ej,iI⟩:=hgone x' aX
          obtain⟨c0,AF,_⟩:=hsub e' c' he
          exact h.bX _ _ _ _ cN AF (λh0=>by subst h0;rw[ej] at he;cases he) x' iI hf
         rcases hnew x' aX with h2 | h2
         ·exact iW.bX _ _ _ _ hbd he (abG hne) x' (hobf x' h2) hf
         have:=(iW.new _ _ he _ hf).2;omega)
       have hp:=hset.put (some dd) (c:=.own d) (v:=v') (by
        have:=bI.own (w:=w') (I:=I) (val:=eD val d v') (bl:=cg (fX d aR.bl) d ⟨.arr,ie.size,rows++news⟩) d _ (by rw[ct,if_pos rfl]) (by intro h;cases h)
        rwa [cb] at this)
       refine⟨v',w',.inl (by simp[execOp,ho,resolve,invoke,builtin,hvd,hrun]),?_⟩
       rw[hdd]
       exact⟨I,_,_,hp⟩
      cases hs
     cases hs
    ·rename_i hx
     rw[hx] at ex
     split at hs
     ·rename_i hc
      simp only[aaR,decide_eq_true_eq] at hc
      obtain⟨⟨aJ,mi⟩,cL⟩:=hc
      split at hs
      ·rename_i hbd
       simp only[aaQ.injEq] at hs
       subst hs
       have hvd:a.eval x=.slice none 0 0:=by
        generalize a.eval x=v at ex
        cases ex with
        | leaf c v hl h=>cases h;rfl
       obtain⟨v',w',e1,hrun,rC,hgr,hnew⟩:=xm (P:=P) (w:=w) (ty:=o.type) hk hi hz hzs (e0:=e) (v:=.slice none 0 0) (n:=0) (xs:=[]) (v2:=a.eval y) (iz.nil w 0 e inf.size) hsrc hlus hones (by omega) (by rw[hby,abj];exact aJ) (by omega)
       rw[hsz,abj,abv] at rC
       have hbel:Below w.heap.size w w':=CC hgr (λk jl=>by simp[Value.ownBlock] at jl) (abr _)
       have zf:=iW.grow hbel
       have yv:∀ x',F x'->B x'/\x' < w.heap.size:=by
        intro x' aX
        obtain⟨d1,c1,cN,ej,iI⟩:=hgone x' aX
        exact h.new _ _ cN _ iI
       have VL:∀ x',F x'->¬ I x':=by
        intro x' aX
        obtain⟨d1,c1,cN,ej,iI⟩:=hgone x' aX
        exact h.dt _ _ cN _ iI
       have EA:∀ k,v'.ownBlock=some k->w.heap.size<=k/\k < w'.heap.size:=λk jl=>⟨(hnew k jl).elim (λh=>by simp[Value.ownBlock] at h) id,(rC.lt k jl).2⟩
       have hrel:bE w' I news.flatten us F:=bE.frame (λx' aX=>hbel.block x' (h.lt x' aX)) (λ_ h=>h) zm (λx' aX=>hbel.block x' (yv x' aX).2)
       have hn:=zf.qu hbd (b:=⟨.arr,ie.size,news⟩) (v:=v') (F:=λx'=>F x'\/v'.ownBlock=some x')
        ⟨e1,us,F,hun,rC,hrel,λ_ h=>.inl h,λb hb=>⟨.inr hb,λhf=>by have:=(yv b hf).2;have:=(EA b hb).1;omega⟩⟩
        (λx' aX=>aX.elim (λh1=>⟨(yv x' h1).1,abg (yv x' h1).2 hbel.size⟩) (λh1=>⟨h.size _ (EA x' h1).1,(EA x' h1).2⟩))
        (λx' aX Kw=>aX.elim (λh1=>VL x' h1 Kw) (λh1=>by have:=h.lt x' Kw;have:=(EA x' h1).1;omega))
        (λx' aX e' c' he hf=>aX.elim (λh1=>by
         obtain⟨d1,c1,cN,ej,iI⟩:=hgone x' h1
         obtain⟨c0,AF,_⟩:=hsub e' c' he
         exact h.bX _ _ _ _ cN AF (λh0=>by subst h0;rw[ej] at he;cases he) x' iI hf) (λh1=>by have:=(iW.new _ _ he _ hf).2;have:=(EA x' h1).1;omega))
       have hp:=hn.put (some dd) (c:=.own dd) (v:=v') (by
        have:=bI.own (w:=w') (I:=I) (val:=eD val dd v') (bl:=(dd,⟨.arr,ie.size,news⟩)::aR.bl) dd _ (by rw[bQ,if_pos rfl]) (by intro h;cases h)
        rwa [cb] at this)
       refine⟨v',w',.inl (by simp[execOp,ho,resolve,invoke,builtin,hvd,hrun]),?_⟩
       rw[hdd]
       exact⟨I,_,_,hp⟩
      cases hs
     cases hs
    cases hs
   cases hs
  cases hs
 cases hs
theorem EB {t e:TypeId}{a:Option Addr}{n cap s:Nat}(hk:P.underlying t=some (.slice e))(hsz:(sizeOf e).run P w=.ok s w)(k k':IntKind)(hc:n<=cap):
  (Instr.slice t (.slice a n cap) none (some (.int k (n:Int))) (some (.int k' (n:Int)))).run P w=.ok (.slice (if n=0 then a else a.map (·.add (0 * s))) n n) w:=by
 simp[Instr.slice,run_underlying hk,Instr.sliceBounds,run_sliceBound,hsz,hc]
theorem Mc (hT:fa P T)(h:bz B W0 I0 I val fs σ a w){t:TypeId}{x:Operand}{lo:Option Operand}{hi mx:Operand}(ho:o.op=.slice t x lo (some hi) (some mx))
  (hs:Dd T σ o.dst t (σ.get x) lo (σ.get hi) (σ.get mx)=some aA):fR P B W0 I0 o a w aA:=by
 unfold Dd at hs
 split at hs
 case h_2=>cases hs
 rename_i e _ _ _ d dd ht hx hdd
 obtain⟨_,_,_,_,_,_,_,_,_,hk⟩:=hT _ _ ht
 have hk:P.underlying t=some (.slice e):=hk
 split at hs
 case h_2=>cases hs
 rename_i ie sz rows k n k' n' hte hbd hhi hmx
 obtain⟨inf,_,iX,hsz,_⟩:=hT _ _ hte
 split at hs
 case h_2=>cases hs
 rename_i hc
 simp only[aaQ.injEq] at hs
 subst hs
 simp only[aaR,decide_eq_true_eq] at hc
 obtain⟨⟨h1,h2⟩,hbs⟩:=hc
 subst h1;subst h2
 have ex:=h.eval x
 rw[hx] at ex
 have ehi:=h.eval hi
 rw[hhi] at ehi
 have ehi:=eO ehi
 have emx:=h.eval mx
 rw[hmx] at emx
 have emx:=eO emx
 have hvd:a.eval x=val d:=by
  generalize a.eval x=v at ex
  cases ex with
  | leaf c v hl h=>cases hl
  | own d b hb hk=>rfl
 have hsize:(sizeOf e).run P w=.ok inf.size w:=by simp[sizeOf,typeInfo,iX]
 obtain⟨e0,xs,G,hu,how,hR,hG,hob⟩:=h.blocks d _ hbd
 have jl:P.underlying t=some (.slice (P.elem t)):=by
  have he:P.elem t=e:=by simp[Program.elem,hk]
  rw[he];exact hk
 -- the value with no room behind
 have key:∃ v',(Instr.sliceAt t (val d) none (some (.int k (rows.length:Int))) (some (.int k' (rows.length:Int)))).run P w=.ok v' w/\iz w 0 e0 sz v' rows.length xs/\v'.ownBlock=(val d).ownBlock:=by
  rcases how.2 with ⟨hv,hn⟩ | ⟨g,cap,cur,hv,hg,hh,hnc,hcm,hcs,htk⟩
  ·refine⟨.slice none 0 0,?_,by rw[<- hv];exact how,by rw[hv]⟩
   have:=EB (P:=P) (w:=w) (a:=none) (n:=0) (cap:=0) hk hsize k k' (abr _)
   rw[run_sliceAt_slice (h:=jl),hv,hn]
   simpa using this
  refine⟨.slice (some ⟨g,0,none⟩) rows.length rows.length,?_,⟨how.1,.inr ⟨g,rows.length,cur,rfl,hg,hh,abr _,acf hnc hcm,acf (acu _ hnc) hcs,htk⟩⟩,by rw[hv];rfl⟩
  have:=EB (P:=P) (w:=w) (a:=some ⟨g,0,none⟩) (n:=rows.length) (cap:=cap) hk hsize k k' hnc
  rw[run_sliceAt_slice (h:=jl),hv]
  have ha:(if rows.length=0 then some (⟨g,0,none⟩:Addr) else (some (⟨g,0,none⟩:Addr)).map (·.add (0 * inf.size)))=some ⟨g,0,none⟩:=by
   rw[ab0];split<;>simp[Addr.add_lit]
  rw[ha] at this
  exact this
 obtain⟨v',hrun,rC,hown⟩:=key
 have hset:=h.MG hbd (w':=w) (λ_ _ _=>rfl) (Kept.refl _ _) (v':=v') (dI:=rows) (F:=fs d) ⟨e0,xs,G,hu,rC,hR,hG,λb hb=>hob b (by rw[<- hown];exact hb)⟩
  (λx' aX=>h.new d _ hbd x' aX) (λx' aX=>h.dt d _ hbd x' aX) (λx' aX e' c' hne he hf=>h.bX d e' _ c' hbd he (abG hne) x' aX hf)
 have hp:=hset.put (some dd) (c:=.own d) (v:=v') (by
  have:=bI.own (w:=w) (I:=I) (val:=eD val d v') (bl:=cg (fX d σ.bl) d ⟨.arr,sz,rows⟩) d _ (by rw[ct,if_pos rfl]) (by intro h;cases h)
  rwa [cb] at this)
 refine⟨v',w,.inl (by simp[execOp,ho,hvd,ehi,emx,hrun]),?_⟩
 rw[hdd]
 exact⟨I,_,_,hp⟩
end
theorem CO :∀{rows:List (List PV)},sb rows=true->rows.flatten=(qo rows).map (PV.int .u8)/\(qo rows).length=rows.length
 | [],_=>⟨rfl,rfl⟩
 | r::l,h=>by
  unfold sb at h
  split at h
  ·rename_i h1;cases h1
  ·rename_i n l' h1
   cases h1
   obtain⟨e1,e2⟩:=CO h
   exact⟨by simp[qo,Pw,e1],by simp[qo,e2]⟩
  cases h
section
variable {P : Program} {T : dA} {B : Ft} {W0 : World} {I0 : Ft} {I : Ft} {val : Nat -> Value} {fs : Nat -> Ft} {σ aA : St} {a : Act} {w w' : World} {o : Oper}
theorem MI :∀{ns:List Int} {vs:List Value} {F:Ft},bE w I (ns.map (PV.int .u8)) vs F->vs=ns.map (Value.int .u8)
 | [],_,_,h=>by cases h;rfl
 | n::ns,_,_,h=>by
  cases h with
  | cons c l v vs F G H h t hF hG d=>cases h;rw[MI t];rfl
theorem Ky {bl:List (Nat × aO)}:∀{ns:List Int} {vs:List Value},aG w I val bl (ns.map (PV.int .u8)) vs->vs=ns.map (Value.int .u8)
 | [],_,h=>by cases h;rfl
 | n::ns,_,h=>by
  cases h with
  | cons c l v vs h t=>rw[eO h,Ky t];rfl
theorem ED (h:bz B W0 I0 I val fs σ a w){c:PV}{v:Value}{rows:List (List PV)}(hc:bI w I val σ.bl c v)(hr:rowsOf σ.bl c=some rows):
  (v=.slice none 0 0/\rows=[])\/∃ ad cap vs,v=.slice (some ad) rows.length cap/\(∀(j:Nat) (u:Value),vs[j]? =some u->w.cell? (ad.add j)=some u)/\((∃ F,bE w I rows.flatten vs F)\/aG w I val σ.bl rows.flatten vs):=by
 cases hc with
 | leaf c v hl hV=>
  cases hV with
  | int=>cases hr
  | bool=>cases hr
  | str=>cases hr
  | zc=>simp only[rowsOf,aaQ.injEq] at hr;exact .inl ⟨rfl,hr.symm⟩
  | raw=>cases hl
  | aa=>cases hl
  | ow=>cases hl
  | slnil sz=>simp only[rowsOf,aaQ.injEq] at hr;exact .inl ⟨rfl,hr.symm⟩
  | sl sz rows ad cap vs F hu hI hs hcell hR hcap=>
   simp only[rowsOf,aaQ.injEq] at hr
   subst hr
   exact .inr ⟨ad,cap,vs,rfl,hcell,.inl ⟨_,hR⟩⟩
 | own d b hb hk=>
  simp only[rowsOf,hb] at hr
  split at hr
  ·rename_i sz dI hq
   cases hq
   simp only[aaQ.injEq] at hr
   subst hr
   obtain⟨e,xs,G,hu,how,hR,hG,hob⟩:=h.blocks d _ hb
   rcases how.2 with ⟨hv,hn⟩ | ⟨g,cap,cur,hv,_,hh,_⟩
   ·exact .inl ⟨hv,abJ hn⟩
   exact .inr ⟨⟨g,0,none⟩,cap,xs,hv,how.cells (by rw[hv];rfl),.inl ⟨_,hR⟩⟩
  ·rename_i sz r hq
   cases hq
   simp only[aaQ.injEq] at hr
   subst hr
   obtain⟨g,hvd,_,T',c',hfg,hh,hsl,hrl,_⟩:=h.blocks d _ hb
   refine .inr ⟨⟨g,0,none⟩,1,c'.toList,hvd,λj u hj=>?_,.inr (by simpa using hsl)⟩
   rw[Addr.add_mid,abj,cell_of_row w g j c' T' (0,0) hh];simpa using hj
  cases hr
 | pt d i j b g hb hg=>cases hr
 | rd cs a vs hI hs hcell nT=>cases hr
 | agg cs vs h=>cases hr
 | aw cs vs h=>cases hr
 | fn f cs vs h=>cases hr
 | aa v=>cases hr
theorem PB (hT:fa P T)(h:bz B W0 I0 I val fs σ a w){t t':TypeId}{x:Operand}(ho:o.op=.convert t t' x)(hs:uc T σ o.dst t t' (σ.get x)=some aA):fR P B W0 I0 o a w aA:=by
 have ex:=h.eval x
 unfold uc at hs
 split at hs
 ·rename_i ts _ _ _ k _ _ _ ht lv
  obtain⟨_,_,_,_,_,_,_,_,_,sU⟩:=hT _ _ lv
  have sU:P.underlying t'=some (.int k):=sU
  split at hs
  ·rename_i k0 k1 n hx
   obtain⟨_,_,_,_,_,_,_,_,_,hu⟩:=hT _ _ ht
   have hu:P.underlying t=some (.int k0):=hu
   simp only[aaQ.injEq] at hs
   subst hs
   rw[hx] at ex
   have ex:=eO ex
   have hk:P.intKind t'=k:=by simp[Program.intKind,sU]
   have:=run_convert_int (P:=P) w t t' k1 n (by rw[hu];rfl) (by rw[hk];exact sU)
   rw[hk] at this
   exact h.value (by simp[execOp,ho,ex,this]) (.leaf _ _ rfl (.int _ _ _))
  cases hs
 ·rename_i e _ _ _ _ _ _ ht lv
  obtain⟨_,_,_,_,_,_,_,_,_,hu⟩:=hT _ _ ht
  have hu:P.underlying t=some (.slice e):=hu
  obtain⟨_,_,_,_,_,_,_,_,_,sU⟩:=hT _ _ lv
  have sU:P.underlying t'=some .string:=sU
  split at hs
  ·rename_i rows he hr
   cases hb:sb rows with
   | false=>simp[hb] at hs
   | true=>
    simp only[hb,cond_true,aaQ.injEq] at hs
    subst hs
    have hue:P.underlying e=some (.int .u8):=by
     unfold NS at he
     split at he
     ·rename_i hte
      obtain⟨_,_,_,_,_,_,_,_,_,hue⟩:=hT _ _ hte
      exact hue
     cases he
    obtain⟨hfl,hlen⟩:=CO hb
    rcases ED h ex hr with ⟨hv,dQ⟩ | ⟨ad,cap,vs,hv,hcell,hrel⟩
    ·have hc:=run_convert_bytes_nil (P:=P) w t e hu hue 0 0 t' sU
     refine h.value (v:=.string (strOfNums (qo rows))) ?_ (.leaf _ _ rfl (.str _ _))
     subst dQ
     have:strOfNums (qo [])=ByteArray.empty:=rfl
     rw[this]
     simp[execOp,ho,hv,hc]
    have hvs:vs=(qo rows).map (Value.int .u8):=by
     rw[hfl] at hrel
     rcases hrel with ⟨F,hR⟩ | hR
     ·exact MI hR
     ·exact Ky hR
    have hl:(loadCells ad rows.length).run P w=.ok ((qo rows).map (Value.int .u8)).toArray w:=by
     have:=run_loadCells_list (P:=P) w ad vs hcell
     rw[hvs] at this
     simpa [hlen] using this
    have hc:(convert t t' (.slice (some ad) rows.length cap)).run P w=.ok (.string (strOfNums (qo rows))) w:=by
     rw[run_convert_bytes_string w t t' e (some ad) rows.length cap hu hue sU,run_bytesToString w ad rows.length cap (qo rows) hl,foldl_push_bytes]
     simp[strOfNums,ByteArray.empty,ByteArray.emptyWithCapacity]
     rfl
    exact h.value (by simp[execOp,ho,hv,hc]) (.leaf _ _ rfl (.str _ _))
  cases hs
 cases hs
theorem N1 (hT:fa P T)(h:bz B W0 I0 I val fs σ a w){t:TypeId}{x ix:Operand}(ho:o.op=.index t x ix)(hs:tO T σ o.dst t (σ.get x) (σ.get ix)=some aA):fR P B W0 I0 o a w aA:=by
 have ex:=h.eval x
 have ey:=h.eval ix
 unfold tO at hs
 split at hs
 ·rename_i fI lX z0 s k i ht hx hi
  rw[hx] at ex
  rw[hi] at ey
  have ex:=nw ex
  have ey:=eO ey
  obtain⟨_,_,_,_,_,_,_,_,_,hu⟩:=hT _ _ ht
  have hu:P.underlying t=some .string:=hu
  split at hs
  ·rename_i hb
   simp only[aaR,decide_eq_true_eq] at hb
   simp only[aaQ.injEq] at hs
   subst hs
   have hlt:i.toNat < s.size:=by omega
   have hr:=run_index_string (P:=P) (w:=w) t s k i hu
   rw[dif_pos hb] at hr
   have hv:bc s i=((s[i.toNat]'hlt).toNat:Int):=by simp only[bc,ByteArray.getElem?_lt' s _ hlt]
   rw[hv]
   exact h.value (by simp[execOp,ho,ex,ey,hr]) (.leaf _ _ rfl (.int _ _ _))
  cases hs
 cases hs
theorem Ot (hT:fa P T)(h:bz B W0 I0 I val fs σ a w){K:St->Prop}{next:Act->World->Prop}{Q:Exit->Act->World->Prop}
  (hk:∀ aA a' w',eo B W0 I0 aA a' w'->K aA->next a' w') (ha:RM T o K σ):o.wp P a w next Q:=by
 obtain⟨op,t,x,y,t',e,fI,lX,z0,rows,ho,ht,hy,hr,hK⟩:=ha
 obtain⟨_,_,_,_,_,_,_,_,_,hu⟩:=hT _ _ ht
 have hu:P.underlying t=some (.slice e):=hu
 have ex:=h.eval x
 have ey:=h.eval y
 rw[hy] at ey
 have hyv:a.eval y=.slice none 0 0:=by
  generalize a.eval y=v at ey
  cases ey with
  | leaf c v hl h=>cases h;rfl
 obtain⟨ad,n,cap,hv,hnil⟩:∃ ad n cap,a.eval x=.slice ad n cap/\(ad=none->rows=[]):=by
  rcases ED h ex hr with ⟨hv,dQ⟩ | ⟨ad,cap,vs,hv,_⟩
  ·exact⟨none,0,0,hv,λ_=>dQ⟩
  exact⟨some ad,_,cap,hv,λh=>by cases h⟩
 have hg:∀ Z5,(eqGuard Z5 t x y (.slice ad n cap) (.slice none 0 0)).run P w=.ok () w:=by
  intro Z5
  unfold eqGuard
  split<;>simp
 rcases hK with ⟨rfl,hK⟩ | ⟨rfl,hK⟩
 ·have hb:(Go.binOp .eql t (.slice ad n cap) (.slice none 0 0)).run P w=.ok (.bool ad.isNone) w:=by
   simp[Go.binOp,run_equal_slice_nil w t e ad n cap hu]
  refine fR.wp (h.value (v:=.bool ad.isNone) ?_ (.leaf _ _ rfl (.bool _ _))) λa' w' hS=>hk _ _ _ hS (hK ad.isNone λhn=>hnil (by simpa using hn))
  simp only[execOp,ho,hv,hyv,Sem.run_bind,hg,Result.andThen_ok,hb,Sem.run_pure]
 have hb:=run_neq_slice_nil (P:=P) w t e ad n cap hu
 refine fR.wp (h.value (v:=.bool (!ad.isNone)) ?_ (.leaf _ _ rfl (.bool _ _))) λa' w' hS=>hk _ _ _ hS (hK (!ad.isNone) λhn=>hnil (by simpa using hn))
 simp only[execOp,ho,hv,hyv,Sem.run_bind,hg,Result.andThen_ok,hb,Sem.run_pure]
end
section
variable {P : Program} {T : dA} {B : Ft} {W0 : World} {I0 : Ft} {I : Ft} {val : Nat -> Value} {fs : Nat -> Ft} {σ aA : St} {a : Act} {w w' : World} {o : Oper}
theorem NY (hT:fa P T)(h:bz B W0 I0 I val fs σ a w)(hs:step T σ o=some aA):fR P B W0 I0 o a w aA:=by
 unfold step at hs
 split at hs
 ·rename_i x ho
  simp only[aaQ.injEq] at hs;subst hs
  exact Hu h (.inl ho)
 ·rename_i x ho
  simp only[aaQ.injEq] at hs;subst hs
  exact Hu h (.inr ho)
 ·rename_i c x y ho
  split at hs
  ·rename_i t hc
   simp only[aaQ.injEq] at hs;subst hs
   exact Pz h ho hc
  cases hs
 ·rename_i op t x y t' ho
  split at hs
  ·rename_i v hv
   simp only[aaQ.injEq] at hs;subst hs
   exact Mb hT h ho hv
  cases hs
 ·rename_i t0 x ho
  split at hs
  ·rename_i t hx
   simp only[aaQ.injEq] at hs;subst hs
   exact RV h ho hx
  cases hs
 ·rename_i t x ho;exact RQ h ho hs
 ·rename_i t ho;exact NV hT h ho hs
 ·rename_i t x ho;exact PA hT h ho hs
 ·rename_i t x f ho;exact Gb hT h ho hs
 ·rename_i t x ix ho;exact Gc hT h ho hs
 ·rename_i t x y ho
  split at hs
  ·rename_i hd;exact NZ hT h ho hd hs
  cases hs
 ·rename_i t len ps ho;exact qv hT h ho hs
 ·rename_i t x lo hi ho;exact N0 hT h ho hs
 ·rename_i t x lo hi mx ho;exact Mc hT h ho hs
 ·rename_i t ps ho;exact NX hT h ho hs
 ·rename_i t l c ho;exact Ga hT h ho hs
 ·rename_i t t' x ho;exact PB hT h ho hs
 ·rename_i t x ix ho;exact N1 hT h ho hs
 ·rename_i x n ho
  split at hs
  ·rename_i vs hx
   cases hn:rZ n vs.length with
   | false=>simp[hn] at hs
   | true=>
    simp only[hn,cond_true,aaQ.injEq] at hs;subst hs
    exact J6 h ho hx (zU hn)
  cases hs
 ·rename_i x ho
  split at hs
  ·rename_i d i j hx
   simp only[aaQ.injEq] at hs;subst hs
   exact zd h ho hx (.inl ⟨d,i,j,rfl⟩)
  ·rename_i cs hx
   simp only[aaQ.injEq] at hs;subst hs
   exact zd h ho hx (.inr ⟨cs,rfl⟩)
  cases hs
 ·rename_i f first caps ho
  split at hs
  ·rename_i hf
   simp only[aaQ.injEq] at hs;subst hs
   exact I5 h ho hf
  cases hs
 ·rename_i c ho
  obtain⟨callee,args,types⟩:=c
  simp only at hs
  split at hs
  ·rename_i x t hargs hty
   have h1:args=#[x]:=by apply Array.ext';simpa using hargs
   have h2:types=#[t]:=by apply Array.ext';simpa using hty
   subst h1;subst h2
   exact RW hT h ho hs
  ·rename_i x y t t' hargs hty
   have h1:args=#[x,y]:=by apply Array.ext';simpa using hargs
   have h2:types=#[t,t']:=by apply Array.ext';simpa using hty
   subst h1;subst h2
   cases hb:nq t t' with
   | false=>simp[hb] at hs
   | true=>
    simp only[hb,cond_true] at hs
    have hb:=eZ hb
    subst hb
    exact Md hT h ho hs
  cases hs
 cases hs
theorem PC {bl:List (Nat × aO)}(hblk:∀ d b,av bl d=some b->iU w I val bl b (val d) (fs d)){J:Ft}(iV:∀ x,I x->J x)(oT:∀ d b,av bl d=some b->∀ x,fs d x->J x)
  {c:PV} {v:Value} (hc:bI w I val bl c v) (h1:v.oneCell'=true):dj w J (Eb bl c) v bf:=by
 cases hc with
 | leaf c v hl h=>
  have hv:Eb bl c=c:=by cases c<;>first | rfl | simp[bG] at hl
  rw[hv]
  exact h.frame (bw.refl _ _) iV (bw.refl _ _)
 | own d b hb hk=>
  simp only[Eb]
  split
  ·rename_i sz rows cP
   rw[hb] at cP
   cases cP
   obtain⟨e,xs,G,hu,how,hR,hG,hob⟩:=hblk d _ hb
   have:=dj.erase (J:=J) iV (dj.ow (w:=w) (I:=I) sz rows (val d) e xs (fs d) G hu how hR hG hob) (oT d _ hb)
   simpa [Av.erase] using this
  exact .aa _ _ h1
 | pt d i j b g hb hg=>exact .aa _ _ rfl
 | rd cs a vs hI hs hcell hr=>exact .aa _ _ rfl
 | agg cs vs h=>cases h1
 | aw cs vs h=>cases h1
 | fn f cs vs h=>exact .aa _ _ rfl
 | aa v=>exact .aa _ _ h1
theorem sc {bl:List (Nat × aO)}(hblk:∀ d b,av bl d=some b->iU w I val bl b (val d) (fs d)){J:Ft}(iV:∀ x,I x->J x)(oT:∀ d b,av bl d=some b->∀ x,fs d x->J x):
  ∀{l:List PV} {vs:List Value},aG w I val bl l vs->(∀ v∈vs,v.oneCell'=true)->bE w J (nF bl l) vs bf
 | _,_,.nil,_=>.nil _
 | _,_,.cons c l v vs h t,h1=>.cons _ _ _ _ bf bf _ (PC hblk iV oT h (h1 v (by simp))) (sc hblk iV oT t (λu hu=>h1 u (by simp[hu]))) (λ_ h=>h) (λ_ h=>h) (λ_ h=>h.elim)
theorem CE {bl:List (Nat × aO)}{J:Ft}:∀{l:List PV} {vs:List Value} {F:Ft},bE w J (dh l) vs F->bE w J (nF bl l) vs bf
 | [],_,_,.nil _=>.nil _
 | c::l,_,_,.cons _ _ v vs F G H h t hF hG d=>by
  refine .cons _ _ v vs bf bf _ ?_ (CE t) (λ_ h=>h) (λ_ h=>h) (λ_ h=>h.elim)
  cases c with
  | own d=>cases h
  | pt d i j=>cases h
  | rd cs=>cases h
  | agg cs=>cases h
  | aw cs=>cases h
  | fn f cs=>cases h
  | aa=>cases h with | aa v F h1=>exact .aa _ _ h1
  | raw v=>cases h with | aa v F h1=>exact .aa _ _ h1
  | ow sz rows=>exact fH (c:=.sl sz (ar rows)) rfl h
  | int k n=>exact fH (c:=.int k n) rfl h
  | bool b=>exact fH (c:=.bool b) rfl h
  | str b=>exact fH (c:=.str b) rfl h
  | zc=>exact fH (c:=.zc) rfl h
  | sl sz rows=>exact fH (c:=.sl sz rows) rfl h
mutual
theorem bI.view {bl:List (Nat × aO)}(hblk:∀ d b,av bl d=some b->iU w I val bl b (val d) (fs d)){J:Ft}(iV:∀ x,I x->J x)(oT:∀ d b,av bl d=some b->∀ x,fs d x->J x){cr:Nat->Value}:
    ∀{c:PV} {v:Value},bI w I val bl c v->bI w J cr [] (Av.view bl c) v
  | _,_,.leaf c v hl h=>by
    have hv:Av.view bl c=c:=by cases c<;>first | rfl | simp[bG] at hl
    rw[hv]
    exact .leaf _ _ hl (h.frame (bw.refl _ _) iV (bw.refl _ _))
  | _,_,.own d b hb hk=>by
    simp only[Av.view]
    split
    · rename_i sz rows cP
      rw[hb] at cP
      cases cP
      obtain⟨e,xs,G,hu,how,hR,hG,hob⟩:=hblk d _ hb
      have:=dj.erase (J:=J) iV (dj.ow (w:=w) (I:=I) sz rows (val d) e xs (fs d) G hu how hR hG hob) (oT d _ hb)
      exact .leaf _ _ rfl (by simpa [Av.erase] using this)
    · rename_i sz r cP
      rw[hb] at cP
      cases cP
      obtain⟨g,hvd,h0,T',c',hfg,hh,hsl,hrl,hones⟩:=hblk d _ hb
      rw[hvd]
      have hL:=sc hblk iV oT hsl hones
      refine .leaf _ _ rfl (.sl sz [nF bl r] ⟨g,0,none⟩ 1 c'.toList _ (λr0 dQ=>?_) (λ_=>oT d _ hb g hfg) (λ_=>rfl) (λj u hj=>?_) (by simpa using hL) (by simp))
      · simp at dQ;subst dQ;rw[<- hrl,<- hL.len,hsl.len]
      · rw[Addr.add_mid,abj,cell_of_row w g j c' T' (0,0) hh];simpa using hj
    · exact .aa _
  | _,_,.pt d i j b g hb hg=>by
    simp only[Av.view]
    split
    · rename_i k sz rows cP
      rw[hb] at cP
      cases cP
      split
      · rename_i r hr
        have key:∃ vs,(∀(k:Nat) (u:Value),vs[k]? =some u->w.cell? ⟨g,i * sz+k,none⟩=some u)/\bE w J (nF bl r) vs bf/\J g:=by
          cases k with
          | var=>
            match rows,hblk d _ hb,hr with
            | [r0],hB,hr=>
              obtain⟨g',hvd,T',c',hfg,hh,hsl,hrl,hones⟩:=hB
              obtain⟨rfl,rfl⟩:=row_one hr
              rw[hvd] at hg
              simp[jJ] at hg
              subst hg
              refine⟨c'.toList,λk u hk=>?_,sc hblk iV oT hsl hones,oT d _ hb _ hfg⟩
              rw[ab0,abj,cell_of_row w g' k c' T' (0,0) hh];simpa using hk
          | lit=>
            match rows,hblk d _ hb,hr with
            | [r0],hB,hr=>
              obtain⟨g',hvd,h0,T',c',hfg,hh,hsl,hrl,hones⟩:=hB
              obtain⟨rfl,rfl⟩:=row_one hr
              rw[hvd] at hg
              simp[jJ] at hg
              subst hg
              refine⟨c'.toList,λk u hk=>?_,sc hblk iV oT hsl hones,oT d _ hb _ hfg⟩
              rw[ab0,abj,cell_of_row w g' k c' T' (0,0) hh];simpa using hk
          | mul=>
            match rows,hblk d _ hb,hr with
            | [r0],hB,hr=>
              obtain⟨g',hvd,h0,T',c',hfg,hh,hsl,hrl,hones⟩:=hB
              obtain⟨rfl,rfl⟩:=row_one hr
              rw[hvd] at hg
              simp[jJ] at hg
              subst hg
              refine⟨c'.toList,λk u hk=>?_,sc hblk iV oT hsl hones,oT d _ hb _ hfg⟩
              rw[ab0,abj,cell_of_row w g' k c' T' (0,0) hh];simpa using hk
          | arr=>
            obtain⟨e,xs,G,hu,how,hR,hG,hob⟩:=hblk d _ hb
            have hobg:(val d).ownBlock=some g:=by
              rcases how.2 with ⟨h1,_⟩ | ⟨g',cap,cur,h1,_⟩<;>rw[h1] at hg ⊢
              · simp[jJ] at hg
              · simpa [jJ,Value.ownBlock] using hg
            have hrow:=(hR.row hu hr).mono hG
            have hE:=bE.erase (J:=J) iV hrow (oT d _ hb)
            refine⟨_,λk u hk=>?_,CE hE,oT d _ hb g (hob g hobg).1⟩
            rw[abz] at hk
            split at hk
            · have:=how.cells hobg (i * sz+k) u (by simpa using hk)
              rwa [Addr.add_mid,abj] at this
            · cases hk
        obtain⟨vs,hc,hL,hJ⟩:=key
        have hd:nF bl (r.drop j)=(nF bl r).drop j:=by
          clear hL hc hr
          induction j generalizing r with
          | zero=>rfl
          | succ j ih=>cases r with
            | nil=>rfl
            | cons c r=>simpa [nF] using ih r
        rw[hd]
        refine .rd _ _ (vs.drop j) (λ_=>hJ) rfl (λk u hk=>?_) (hL.drop j)
        rw[Addr.add_mid,show i * sz+j+k=i * sz+(j+k) by omega]
        exact hc (j+k) u (by simpa using hk)
      · exact .aa _
    · exact .aa _
  | _,_,.rd cs a vs hb hs hc hr=>.rd cs a vs (λh=>iV _ (hb h)) hs hc (bE.frame (bw.refl _ _) iV hr (bw.refl _ _))
  | _,_,.agg cs vs h=>.agg _ vs (aG.view hblk iV oT h)
  | _,_,.aw cs vs h=>.aw _ vs (aG.view hblk iV oT h)
  | _,_,.fn f cs vs h=>.fn f _ vs (aG.view hblk iV oT h)
  | _,_,.aa v=>.aa v
theorem aG.view {bl:List (Nat × aO)}(hblk:∀ d b,av bl d=some b->iU w I val bl b (val d) (fs d)){J:Ft}(iV:∀ x,I x->J x)(oT:∀ d b,av bl d=some b->∀ x,fs d x->J x){cr:Nat->Value}:
  ∀{l:List PV} {vs:List Value},aG w I val bl l vs->aG w J cr [] (fD bl l) vs
 | _,_,.nil=>.nil
 | _,_,.cons c l v vs h t=>.cons _ _ v vs (bI.view hblk iV oT h) (aG.view hblk iV oT t)
end
inductive jD (w:World)(J:Ft):PV->Value->Ft->Prop
 | one (c:PV) (v:Value) (F:Ft) (h:dj w J c v F):jD w J c v F
 | agg (cs:List PV) (vs:List Value) (F:Ft) (h:bE w J cs vs F):jD w J (.agg cs) (.agg vs.toArray) F
inductive iE (w:World)(J:Ft):List PV->List Value->Ft->Prop
 | nil (F:Ft):iE w J [] [] F
 | cons (c:PV) (l:List PV) (v:Value) (vs:List Value) (F G H:Ft) (h:jD w J c v F) (t:iE w J l vs G) (hF:∀ b,F b->H b) (hG:∀ b,G b->H b) (d:∀ b,F b->¬ G b):
   iE w J (c::l) (v::vs) H
inductive jK (w:World)(J:Ft):PV->Value->Ft->Prop
 | one (c:PV) (v:Value) (F:Ft) (h:jD w J c v F):jK w J c v F
 | aw (cs:List PV) (vs:List Value) (F:Ft) (h:iE w J cs vs F):jK w J (.aw cs) (.tuple vs.toArray) F
theorem ze :∀(x y:List PV),cj x->cj y->cj (x++y)
 | [],_,_,h=>h
 | _::x,y,h,h'=>⟨h.1,ze x y h.2 h'⟩
theorem CF :∀(rows:List (List PV)),ko rows->cj rows.flatten
 | [],_=>trivial
 | r::rows,h=>by rw[abD];exact ze _ _ h.1 (CF rows h.2)
mutual
theorem dj.fresh {J J':Ft}:∀{c:PV} {v:Value} {F:Ft},dj w J c v F->Av.fresh c->dj w J' c v F
 | _,_,_,.int k n F,_=>.int k n F
 | _,_,_,.bool b F,_=>.bool b F
 | _,_,_,.str s F,_=>.str s F
 | _,_,_,.zc F,_=>.zc F
 | _,_,_,.raw v F h1,_=>.raw v F h1
 | _,_,_,.aa v F h1,_=>.aa v F h1
 | _,_,_,.slnil sz F,h=>h.elim
 | _,_,_,.sl sz rows a cap vs F hu hb hs hc hr hcap,h=>h.elim
 | _,_,_,.ow sz rows v e xs F G hu how hr hG hb,h=>.ow sz rows v e xs F G hu how (bE.fresh hr (CF rows h)) hG hb
theorem bE.fresh {J J':Ft}:∀{l:List PV} {vs:List Value} {F:Ft},bE w J l vs F->Av.cj l->bE w J' l vs F
 | _,_,_,.nil F,_=>.nil F
 | _,_,_,.cons c l v vs F G H h t hF hG d,hf=>.cons c l v vs F G H (dj.fresh h hf.1) (bE.fresh t hf.2) hF hG d
end
theorem bz.J7 (h:bz B W0 I0 I val fs σ a w){I':Ft}(hI:∀ x,I x->I' x)(hlt:∀ x,I' x->x < w.heap.size)(hold:∀ x,I' x->I0 x\/B x)(hd:∀ d b,av σ.bl d=some b->∀ x,fs d x->¬ I' x):bz B W0 I0 I' val fs σ a w:=
 {cC:=aG.frame (bw.refl _ _) hI (Ext.refl _ _) h.cC,blocks:=λd b hb=>(h.blocks d b hb).frame (bw.refl _ _) hI (Ext.refl _ _) (bw.refl _ _),bX:=h.bX,dt:=hd,new:=h.new,lt:=hlt,eJ:=hold,
  below:=h.below,size:=h.size,dP:=h.dP,defers:=h.defers}
def Ag (bl cy:List (Nat × aO))(fs gP:Nat->Ft)(F:Ft):Prop:=
 ∀ d b,av cy d=some b->(av bl d=some b/\gP d=fs d)\/(av bl d=none/\∀ x,gP d x->F x)
theorem fZ (d:Nat):∀(l l':List (Nat × aO)),av (l++l') d=match av l d with | some b=>some b | none=>av l' d
 | [],l'=>rfl
 | (e,c)::l,l'=>by
  rw[abt,bQ,bQ,fZ d l l']
  by_cases h:e=d<;>simp[h]
theorem lC {d:Nat}{b:aO}{l bl:List (Nat × aO)}(h:cV bl ((d,b)::l)=true):av bl d=none/\av l d=none/\cV bl l=true:=by
 simp only[cV,aaR] at h
 refine⟨?_,?_,h.2⟩
 ·have:=h.1.1;cases hq:av bl d with
  | none=>rfl
  | some q=>rw[hq] at this;cases this
 have:=h.1.2;cases hq:av l d with
 | none=>rfl
 | some q=>rw[hq] at this;cases this
theorem Hv (h:bz B W0 I0 I val fs σ a w){id:Nat}{c:PV}{v:Value}{F:Ft}(hc:dj w I c v F)(hF:∀ x,F x->B x/\x < w.heap.size)(hI:∀ x,F x->¬ I x)(hO:∀ x,F x->∀ e b,av σ.bl e=some b->¬ fs e x)
    {l:List (Nat × aO)} (hl:l=match (jU true id c).2 with | some b=>[(id,b)] | none=>[]) (hfree:cV σ.bl l=true):
    ∃ cr gP,bz B W0 I0 I cr gP {σ with bl:=l++σ.bl} a w/\bI w I cr (l++σ.bl) (jU true id c).1 v/\Ext σ.bl (l++σ.bl) val cr/\Ag σ.bl (l++σ.bl) fs gP F:=by
  have bf:(jU true id c).2=none->(jU true id c).1=c->(bG c=true\/c=.aa)->∃ cr gP,bz B W0 I0 I cr gP {σ with bl:=l++σ.bl} a w/\bI w I cr (l++σ.bl) (jU true id c).1 v/\Ext σ.bl (l++σ.bl) val cr/\Ag σ.bl (l++σ.bl) fs gP F:=by
    intro h2 h1 hleaf
    rw[h2] at hl
    subst hl
    refine⟨val,fs,h,?_,Ext.refl _ _,λd b hb=>.inl ⟨hb,rfl⟩⟩
    rw[h1]
    rcases hleaf with hleaf | rfl
    · exact .leaf _ _ hleaf (fH hleaf hc)
    · exact .aa _
  cases c with
  | ow sz rows=>
    simp only[jU,cond_true] at hl ⊢
    subst hl
    obtain⟨hn,_,_⟩:=lC hfree
    cases hc with
    | ow sz rows v e xs F G hu how hr hG hb=>
      refine⟨eD val id v,eD fs id F,h.qu hn ⟨e,xs,G,hu,how,hr,hG,hb⟩ hF hI hO,?_,ext_cons hn,λd b hd=>?_⟩
      · have:=bI.own (w:=w) (I:=I) (val:=eD val id v) (bl:=(id,⟨.arr,sz,rows⟩)::σ.bl) id _ (by rw[bQ,if_pos rfl]) (by intro h;cases h)
        rwa [cb] at this
      · rw[abt,abv,bQ] at hd
        by_cases h0:id=d
        · subst h0;exact .inr ⟨hn,λx hx=>by rwa [cb] at hx⟩
        · rw[if_neg h0] at hd;exact .inl ⟨hd,di _ _ (abG h0)⟩
  | int k n=>exact bf rfl rfl (.inl rfl)
  | bool b=>exact bf rfl rfl (.inl rfl)
  | str b=>exact bf rfl rfl (.inl rfl)
  | zc=>exact bf rfl rfl (.inl rfl)
  | sl sz rows=>exact bf rfl rfl (.inl rfl)
  | aa=>exact bf rfl rfl (.inr rfl)
  | raw u=>
    have my:l=[]:=hl
    subst my
    exact⟨val,fs,h,.aa _,Ext.refl _ _,λd b hb=>.inl ⟨hb,rfl⟩⟩
  | own d=>cases hc
  | pt d i j=>cases hc
  | rd cs=>cases hc
  | agg cs=>cases hc
  | aw cs=>cases hc
  | fn f cs=>cases hc
theorem Ext.trans {a b c:List (Nat × aO)}{u v x:Nat->Value}(h:Ext a b u v)(h':Ext b c v x):Ext a c u x:=by
 intro d q hq
 obtain⟨⟨q',pV,h1,h2⟩,h3⟩:=h d q hq
 obtain⟨⟨q2,nV,h4,h5⟩,h6⟩:=h' d q' pV
 exact⟨⟨q2,nV,h4.trans h1,h5.trans h2⟩,h6.trans h3⟩
theorem vm :∀{l:List PV} {vs:List Value} {F:Ft} {id:Nat},bz B W0 I0 I val fs σ a w->bE w I l vs F->(∀ x,F x->B x/\x < w.heap.size)->(∀ x,F x->¬ I x)->(∀ x,F x->∀ e b,av σ.bl e=some b->¬ fs e x)->
    cV σ.bl (bJ true id l).2=true->
    ∃ cr gP,bz B W0 I0 I cr gP {σ with bl:=(bJ true id l).2++σ.bl} a w/\aG w I cr ((bJ true id l).2++σ.bl) (bJ true id l).1 vs/\Ext σ.bl ((bJ true id l).2++σ.bl) val cr/\
      Ag σ.bl ((bJ true id l).2++σ.bl) fs gP F
  | _,_,_,id,h,.nil F,_,_,_,_=>⟨val,fs,h,.nil,Ext.refl _ _,λd b hb=>.inl ⟨hb,rfl⟩⟩
  | _,_,_,id,h,.cons c l v vs F G H hc ht hF hG hd,hlt,hI,hO,hfree=>by
    have hrest:cV σ.bl (bJ true (id+1000) l).2=true:=by
      simp only[bJ] at hfree
      split at hfree
      · exact(lC hfree).2.2
      · exact hfree
    obtain⟨qw,vn,iW,xg,VA,PD⟩:=vm (id:=id+1000) h ht (λx hx=>hlt x (hG x hx)) (λx hx=>hI x (hG x hx)) (λx hx=>hO x (hG x hx)) hrest
    have VB:∀ x,F x->∀ e b,av ((bJ true (id+1000) l).2++σ.bl) e=some b->¬ vn e x:=by
      intro x hx e b he hf
      rcases PD e b he with ⟨h1,h2⟩ | ⟨h1,h2⟩
      · rw[h2] at hf;exact hO x (hF x hx) e b h1 hf
      · exact hd x hx (h2 x hf)
    have J8:cV ((bJ true (id+1000) l).2++σ.bl) (match (jU true id c).2 with | some b=>[(id,b)] | none=>[])=true:=by
      simp only[bJ] at hfree
      cases hq:(jU true id c).2 with
      | none=>rfl
      | some q=>
        rw[hq] at hfree
        obtain⟨h1,h2,_⟩:=lC hfree
        simp only[cV,Bool.and_true]
        rw[fZ,h2,h1]
        rfl
    obtain⟨wE,Em,zf,nW,pW,En⟩:=Hv iW hc (λx hx=>hlt x (hF x hx)) (λx hx=>hI x (hF x hx)) VB rfl J8
    have hbl:(match (jU true id c).2 with | some b=>[(id,b)] | none=>[])++((bJ true (id+1000) l).2++σ.bl)=(bJ true id (c::l)).2++σ.bl:=by
      simp only[bJ]
      cases (jU true id c).2<;>rfl
    rw[hbl] at zf nW pW En
    refine⟨wE,Em,zf,.cons _ _ _ _ nW (aG.frame (bw.refl _ _) (λ_ h=>h) pW xg),VA.trans pW,λd b hb=>?_⟩
    rcases En d b hb with ⟨h1,h2⟩ | ⟨h1,h2⟩
    · rcases PD d b h1 with ⟨h3,h4⟩ | ⟨h3,h4⟩
      · exact .inl ⟨h3,h2.trans h4⟩
      · exact .inr ⟨h3,λx hx=>hG x (h4 x (by rw[h2] at hx;exact hx))⟩
    · refine .inr ⟨?_,λx hx=>hF x (h2 x hx)⟩
      rw[fZ] at h1
      cases hq:av (bJ true (id+1000) l).2 d with
      | none=>rw[hq] at h1;exact h1
      | some q=>rw[hq] at h1;cases h1
end
end Go.Av

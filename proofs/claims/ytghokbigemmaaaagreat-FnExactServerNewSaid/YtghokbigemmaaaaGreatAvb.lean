/- Lemmas and walks for FnExactServerNew: what each function of the program and of the reference comes to. -/
import Derived.Test.YtghokbigemmaaaaGreatAvo
import Derived.Great.BuildSlice
open Option renaming some→aaQ
open Bool renaming and_eq_true→aaR
open Nat renaming zero_le→aaW,lt_of_lt_of_le→abg,le_refl→abr,succ_mul→ab7,le_trans→acf
open List renaming replicate→aa0,mem_cons→aa9,replicate_succ→abu,flatten_cons→abD,map_cons→abL,zipIdx_cons→acG
open Int renaming toNat_of_nonneg→abN
namespace Go.Av
open Go Go.RowKit
set_option linter.unusedVariables false
set_option linter.unusedSimpArgs false
theorem bQ (d:Nat)(b:aO)(l:List (Nat × aO))(e:Nat):av ((d,b)::l) e=if d=e then some b else av l e:=by
 show(bif nq d e then some b else av l e)=_
 by_cases h:d=e
 ·subst h;simp[show nq d d=true by simp]
 rw[if_neg h]
 have:nq d e=false:=by
  cases hb:nq d e with
  | false=>rfl
  | true=>exact absurd (eZ hb) h
 simp[this]
def eD {α:Type}(f:Nat->α)(d:Nat)(x:α):Nat->α:=λe=>if e=d then x else f e
theorem cb {α:Type}(f:Nat->α)(d:Nat)(x:α):eD f d x d=x:=by simp[eD]
theorem di {α:Type}(f:Nat->α){d e:Nat}(x:α)(h:e≠d):eD f d x e=f e:=by simp[eD,h]
theorem yg.frame {w w':World}{I I':Ft}{sz:Nat}{rows:List (List PV)}{v:Value}{F:Ft}(hI:bw I w w')(gj:∀ b,I b->I' b)(hF:bw F w w')(h:yg w I sz rows v F):yg w' I' sz rows v F:=by
 obtain⟨e,xs,G,hu,how,hR,hG,hb⟩:=h
 exact⟨e,xs,G,hu,Ad how (λb hv=>hF b (hb b hv).1),bE.frame hI gj hR (hF.mono hG),hG,hb⟩
theorem mg.frame {w w':World}{I I':Ft}{val cr:Nat->Value}{bl cy:List (Nat × aO)}{sz:Nat}{r:List PV}{g:Nat}{F:Ft}(hI:bw I w w')(gj:∀ b,I b->I' b)(hE:Ext bl cy val cr)
  (hF:bw F w w') (h:mg w I val bl sz r g F):mg w' I' cr cy sz r g F:=by
 obtain⟨T,c,hg,hh,hs,hl,h1⟩:=h
 exact⟨T,c,hg,by rw[hF g hg];exact hh,aG.frame hI gj hE hs,hl,h1⟩
theorem iU.frame {w w':World}{I I':Ft}{val cr:Nat->Value}{bl cy:List (Nat × aO)}{b:aO}{v:Value}{F:Ft}(hI:bw I w w')(gj:∀ b,I b->I' b)(hE:Ext bl cy val cr)
  (hF:bw F w w') (h:iU w I val bl b v F):iU w' I' cr cy b v F:=by
 obtain⟨k,sz,rows⟩:=b
 cases k with
 | arr=>exact yg.frame hI gj hF h
 | var=>
  match rows,h with
  | [r],h=>obtain⟨g,hv,hc⟩:=h;exact⟨g,hv,hc.frame hI gj hE hF⟩
 | lit=>
  match rows,h with
  | [r],h=>obtain⟨g,hv,h0,hc⟩:=h;exact⟨g,hv,h0,hc.frame hI gj hE hF⟩
 | mul=>
  match rows,h with
  | [r],h=>obtain⟨g,hv,h0,hc⟩:=h;exact⟨g,hv,h0,hc.frame hI gj hE hF⟩
section
variable {P : Program} {T : dA} {B : Ft} {W0 : World} {I0 : Ft} {I : Ft} {val : Nat -> Value} {fs : Nat -> Ft} {σ aA : St} {a : Act} {w w' : World} {o : Oper}
theorem bz.world (h:bz B W0 I0 I val fs σ a w)(hsame:∀ x,(I x\/∃ d b,av σ.bl d=some b/\fs d x)->w'.heap[x]? =w.heap[x]?)(hb:Kept B w w'):bz B W0 I0 I val fs σ a w':=by
  have hI:bw I w w':=λx hx=>hsame x (.inl hx)
  refine{cC:=aG.frame hI (λ_ h=>h) (Ext.refl _ _) h.cC,blocks:=λd b hd=>?_,bX:=h.bX,dt:=h.dt,
           new:=λd b hd x hx=>⟨(h.new d b hd x hx).1,abg (h.new d b hd x hx).2 hb.size⟩,lt:=λx hx=>abg (h.lt x hx) hb.size,eJ:=h.eJ,
           below:=h.below.trans hb,size:=λx hx=>h.size x (acf hb.size hx),dP:=h.dP,defers:=h.defers}
  exact(h.blocks d b hd).frame hI (λ_ h=>h) (Ext.refl _ _) (λx hx=>hsame x (.inr ⟨d,b,hd,hx⟩))
theorem bz.grow (h:bz B W0 I0 I val fs σ a w)(hb:Below w.heap.size w w'):bz B W0 I0 I val fs σ a w':=by
 refine h.world (λx hx=>hb.block x ?_) (Kept.below hb h.size)
 rcases hx with hx | ⟨d,b,hd,hx⟩
 ·exact h.lt x hx
 exact(h.new d b hd x hx).2
theorem ext_cons {bl:List (Nat × aO)}{d:Nat}{b:aO}{v:Value}(hd:av bl d=none):Ext bl ((d,b)::bl) val (eD val d v):=by
 intro e c he
 have hne:e≠d:=λh=>by subst h;rw[hd] at he;cases he
 exact⟨⟨c,by rw[bQ,if_neg (Ne.symm hne)];exact he,rfl,rfl⟩,di _ _ hne⟩
theorem bz.qu (h:bz B W0 I0 I val fs σ a w){d:Nat}(hd:av σ.bl d=none){b:aO}{v:Value}{F:Ft}(hB:iU w I (eD val d v) ((d,b)::σ.bl) b v F)
    (hF:∀ x,F x->B x/\x < w.heap.size) (hI:∀ x,F x->¬ I x) (hO:∀ x,F x->∀ e c,av σ.bl e=some c->¬ fs e x):
    bz B W0 I0 I (eD val d v) (eD fs d F) {σ with bl:=(d,b)::σ.bl} a w:=by
  have hE:=ext_cons (val:=val) (b:=b) (v:=v) hd
  have look:∀ e c,av ((d,b)::σ.bl) e=some c->(e=d/\c=b)\/(e≠d/\av σ.bl e=some c):=by
    intro e c he
    rw[bQ] at he
    by_cases h0:d=e
    · rw[if_pos h0] at he;exact .inl ⟨h0.symm,by simpa using he.symm⟩
    · rw[if_neg h0] at he;exact .inr ⟨Ne.symm h0,he⟩
  refine{cC:=aG.frame (bw.refl _ _) (λ_ h=>h) hE h.cC,blocks:=λe c he=>?_,bX:=λe e' c c' he lu hne x hx aX=>?_,dt:=λe c he x hx=>?_,
           new:=λe c he x hx=>?_,lt:=h.lt,eJ:=h.eJ,below:=h.below,size:=h.size,dP:=λe v he=>?_,defers:=h.defers}
  · rcases look e c he with ⟨rfl,rfl⟩ | ⟨hne,he⟩
    · rw[cb,cb];exact hB
    · rw[di _ _ hne,di _ _ hne]
      exact(h.blocks e c he).frame (bw.refl _ _) (λ_ h=>h) hE (bw.refl _ _)
  · rcases look e c he with ⟨rfl,rfl⟩ | ⟨ej,h1⟩<;>rcases look e' c' lu with ⟨rfl,rfl⟩ | ⟨nG,h2⟩
    · exact hne rfl
    · rw[cb] at hx;rw[di _ _ nG] at aX;exact hO x hx _ _ h2 aX
    · rw[cb] at aX;rw[di _ _ ej] at hx;exact hO x aX _ _ h1 hx
    · rw[di _ _ ej] at hx;rw[di _ _ nG] at aX;exact h.bX _ _ _ _ h1 h2 hne x hx aX
  · rcases look e c he with ⟨rfl,rfl⟩ | ⟨ej,h1⟩
    · rw[cb] at hx;exact hI x hx
    · rw[di _ _ ej] at hx;exact h.dt _ _ h1 x hx
  · rcases look e c he with ⟨rfl,rfl⟩ | ⟨ej,h1⟩
    · rw[cb] at hx;exact hF x hx
    · rw[di _ _ ej] at hx;exact h.new _ _ h1 x hx
  · obtain⟨h1,c,hc⟩:=h.dP e v he
    have hne:e≠d:=λh0=>by subst h0;rw[hd] at hc;cases hc
    exact⟨by rw[di _ _ hne];exact h1,c,by rw[bQ,if_neg (Ne.symm hne)];exact hc⟩
theorem mh (w:World)(x:Obj):Below w.heap.size w (w.alloc x):=(Below.refl _ w).alloc (abr _) x
theorem tu (w:World)(x:Obj):(w.alloc x).heap.size=w.heap.size+1:=by show(w.heap.push x).size=_;simp
theorem bI.eD {d:Nat}{b:aO}{v:Value}{bl:List (Nat × aO)}{c:PV}{u:Value}(hd:av bl d=none)(h:bI w I val bl c u):bI w I (eD val d v) ((d,b)::bl) c u:=
 bI.frame (bw.refl _ _) (λ_ h=>h) (ext_cons hd) h
def One (v:Value):Prop:=v.cells=#[v]/\v.oneCell'=true
def F8 (val:Nat->Value)(bl:List (Nat × aO)):Prop:=∀ d b,av bl d=some b->b.k≠ .var->One (val d)
theorem bz.uf (h:bz B W0 I0 I val fs σ a w):F8 val σ.bl:=by
 intro d b hb hk
 have hB:=h.blocks d b hb
 obtain⟨k,sz,rows⟩:=b
 cases k with
 | var=>exact absurd rfl hk
 | arr=>
  obtain⟨e,xs,G,_,how,_⟩:=hB
  rcases how.2 with ⟨hv,_⟩ | ⟨g,cap,cur,hv,_⟩<;>rw[hv]<;>exact⟨rfl,rfl⟩
 | lit=>
  match rows,hB with
  | [r],hB=>obtain⟨g,hv,_⟩:=hB;rw[hv];exact⟨rfl,rfl⟩
 | mul=>
  match rows,hB with
  | [r],hB=>obtain⟨g,hv,_⟩:=hB;rw[hv];exact⟨rfl,rfl⟩
theorem Dh {c:PV}{v:Value}{F:Ft}(hl:bG c=true)(h:dj w I c v F):One v:=by
 cases h with
 | ow sz rows v e xs F G hu how hr hG hb=>simp[bG] at hl
 | raw v F h1=>simp[bG] at hl
 | aa v F h1=>simp[bG] at hl
 | _=>exact⟨rfl,rfl⟩
theorem J1 {c:PV}{v:Value}{bl:List (Nat × aO)}(ho:F8 val bl)(h:bI w I val bl c v)(hs:fY c=true):One v:=by
 cases h with
 | leaf c v hl h=>exact Dh hl h
 | own d b hb hk=>exact ho d b hb hk
 | pt d i j b g hb hg=>exact⟨rfl,rfl⟩
 | rd cs a0 vs hI ug hc hr=>simp[fY] at hs
 | agg cs vs h=>simp[fY] at hs
 | aw cs vs h=>simp[fY] at hs
 | fn f cs vs h=>simp[fY] at hs
 | aa v=>simp[fY] at hs
theorem pU {bl:List (Nat × aO)}(ho:F8 val bl):∀{l:List PV} {vs:List Value},aG w I val bl l vs->eK fY l=true->∀ v∈vs,v.oneCell'=true
 | _,_,.nil,_,v,hv=>by simp at hv
 | _,_,.cons c l u vs h t,ha,v,hv=>by
  simp only[eK,aaR] at ha
  rcases aa9.1 hv with rfl | hv
  ·exact(J1 ho h ha.1).2
  exact pU ho t ha.2 v hv
theorem vk {c:PV}{v:Value}{bl:List (Nat × aO)}(ho:F8 val bl)(h:bI w I val bl c v)(ha:eK fY (cellsOf c)=true):aG w I val bl (cellsOf c) v.cells.toList:=by
 cases h with
 | leaf c v hl h=>
  have hc:cellsOf c=[c]:=by cases c<;>first | rfl | simp[bG] at hl
  rw[hc,(Dh hl h).1];exact .cons _ _ _ _ (.leaf c v hl h) .nil
 | own d b hb hk=>
  rw[(ho d b hb hk).1];exact .cons _ _ _ _ (.own d b hb hk) .nil
 | pt d i j b g hb hg=>exact .cons _ _ _ _ (.pt d i j b g hb hg) .nil
 | rd cs a0 vs hI hs hc hr=>simp[cellsOf,eK,fY] at ha
 | agg cs vs h=>simpa [cellsOf,Value.cells] using h
 | aw cs vs h=>simp[cellsOf,eK,fY] at ha
 | fn f cs vs h=>simp[cellsOf,eK,fY] at ha
 | aa v=>simp[cellsOf,eK,fY] at ha
theorem bz.newRow (h:bz B W0 I0 I val fs σ a w){d:Nat}(hd:av σ.bl d=none){k:BK}{sz:Nat}{r:List PV}{c:Array Value}{t:TypeId}{v:Value}
  (hr:aG w I val σ.bl r c.toList) (hl:r.length=sz) (h1:∀ u∈c.toList,u.oneCell'=true) (hk:(k=.var/\v=.pointer (some ⟨w.heap.size,0,none⟩))\/(k=.lit/\v=.slice (some ⟨w.heap.size,0,none⟩) 1 1/\0 < sz)):
  bz B W0 I0 I (eD val d v) (eD fs d (λx=>x=w.heap.size)) {σ with bl:=(d,⟨k,sz,[r]⟩)::σ.bl} a (w.alloc (.cells c t)):=by
 have h':=h.grow (mh w (.cells c t))
 have nT:aG (w.alloc (.cells c t)) I (eD val d v) ((d,⟨k,sz,[r]⟩)::σ.bl) r c.toList:=
  aG.frame (λx hx=>(mh w (.cells c t)).block x (h.lt x hx)) (λ_ h=>h) (ext_cons hd) hr
 have hc:mg (w.alloc (.cells c t)) I (eD val d v) ((d,⟨k,sz,[r]⟩)::σ.bl) sz r w.heap.size (λx=>x=w.heap.size):=⟨t,c,rfl,heap_alloc_new w _,nT,hl,h1⟩
 refine h'.qu hd ?_ (λx hx=>?_) (λx hx hI=>?_) (λx hx e b he hfs=>?_)
 ·rcases hk with ⟨rfl,rfl⟩ | ⟨rfl,rfl,h0⟩
  ·exact⟨_,rfl,hc⟩
  exact⟨_,rfl,h0,hc⟩
 ·subst hx;rw[tu];exact⟨h.size _ (abr _),by omega⟩
 ·subst hx;have:=h.lt _ hI;omega
 subst hx;have:=(h.new e b he _ hfs).2;omega
theorem CA (w:World)(t:TypeId)(v:Value):(newVar t v).run P w=.ok ⟨w.heap.size,0,none⟩ (w.alloc (.cells v.cells t)):=by
 simp[newVar,newRow,newObj,Sem.run]
theorem RQ (h:bz B W0 I0 I val fs σ a w){t:TypeId}{x:Operand}(ho:o.op=.box t x)(hs:Ec T σ o.dst t (σ.get x)=some aA):fR P B W0 I0 o a w aA:=by
 unfold Ec at hs
 split at hs
 ·rename_i d i hd ht
  split at hs
  ·rename_i hb
   split at hs
   ·rename_i hc
    simp only[aaR] at hc
    simp only[aaQ.injEq] at hs
    subst hs
    have hr:=vk h.uf (h.eval x) hc.2
    have hn:=h.newRow hb (k:=.var) (t:=t) (sz:=i.size) hr (eZ hc.1) (pU h.uf hr hc.2) (.inl ⟨rfl,rfl⟩)
    have hp:=hn.put (some d) (c:=.pt d 0 0) (v:=.pointer (some ⟨w.heap.size,0,none⟩)) (by
     have:=bI.pt (w:=w.alloc (.cells (a.eval x).cells t)) (I:=I) (val:=eD val d (.pointer (some ⟨w.heap.size,0,none⟩))) d 0 0 ⟨.var,i.size,[cellsOf (σ.get x)]⟩ w.heap.size
      (bl:=(d,⟨.var,i.size,[cellsOf (σ.get x)]⟩)::σ.bl) (by rw[bQ,if_pos rfl]) (by rw[cb];rfl)
     simpa using this)
    refine⟨.pointer (some ⟨w.heap.size,0,none⟩),w.alloc (.cells (a.eval x).cells t),.inl (by simp[execOp,ho,Instr.box,CA]),?_⟩
    rw[hd]
    exact⟨I,_,_,hp⟩
   cases hs
  cases hs
 cases hs
theorem bE.cC {bl:List (Nat × aO)}:∀{l:List PV} {vs:List Value} {F:Ft},bE w I l vs F->eK bG l=true->aG w I val bl l vs
 | _,_,_,.nil _,_=>.nil
 | _,_,_,.cons c l v vs F G H h t hF hG d,ha=>by
  simp only[eK,aaR] at ha
  exact .cons _ _ _ _ (.leaf _ _ ha.1 (fH ha.1 h)) (t.cC ha.2)
theorem Ae {l:List PV}(h:eK bG l=true):eK fY l=true:=by
 induction l with
 | nil=>rfl
 | cons c l ih=>
  simp only[eK,aaR] at h ⊢
  refine⟨?_,ih h.2⟩
  have:=h.1
  cases c<;>simp[bG,fY] at this ⊢
theorem RT {P:Program}{t:TypeId}{inf:TypeInfo}{z:Value}(hi:P.info? t=some inf)(hz:inf.zero=some z)(w:World):(zeroValue t).run P w=.ok z w:=by
 simp[zeroValue,typeInfo,hi,hz,program,Sem.run]
theorem NV (hT:fa P T)(h:bz B W0 I0 I val fs σ a w){t:TypeId}(ho:o.op=.alloc t)(hs:xb T σ o.dst t=some aA):fR P B W0 I0 o a w aA:=by
 unfold xb at hs
 split at hs
 ·rename_i d i hd ht
  obtain⟨inf,z,hi,hsz,_,hz,hzr,hzl,_,hk⟩:=hT _ _ ht
  split at hs
  ·rename_i hb hza
   simp only[aaQ.injEq] at hs
   subst hs
   have hr:aG w I val σ.bl i.zero z.cells.toList:=(hzr w I).cC hza
   have hn:=h.newRow hb (k:=.var) (t:=t) (sz:=i.size) hr hzl (pU h.uf hr (Ae hza)) (.inl ⟨rfl,rfl⟩)
   have hp:=hn.put (some d) (c:=.pt d 0 0) (v:=.pointer (some ⟨w.heap.size,0,none⟩)) (by
    have:=bI.pt (w:=w.alloc (.cells z.cells t)) (I:=I) (val:=eD val d (.pointer (some ⟨w.heap.size,0,none⟩))) d 0 0 ⟨.var,i.size,[i.zero]⟩ w.heap.size
     (bl:=(d,⟨.var,i.size,[i.zero]⟩)::σ.bl) (by rw[bQ,if_pos rfl]) (by rw[cb];rfl)
    simpa using this)
   refine⟨.pointer (some ⟨w.heap.size,0,none⟩),w.alloc (.cells z.cells t),.inl (by simp[execOp,ho,Instr.alloc,RT hi hz,CA]),?_⟩
   rw[hd]
   exact⟨I,_,_,hp⟩
  cases hs
 cases hs
theorem bE.append :∀{l l':List PV} {vs xf:List Value} {F G H:Ft},bE w I l vs F->bE w I l' xf G->(∀ b,F b->¬ G b)->(∀ b,F b->H b)->(∀ b,G b->H b)->bE w I (l++l') (vs++xf) H
 | _,_,_,_,_,_,_,.nil _,h',_,_,hG=>h'.mono hG
 | _,_,_,_,_,_,H,.cons c l v vs F1 G1 H1 h t hF hG d,h',hd,hH,CB=>
  .cons c _ v _ F1 (λb=>H b/\¬ F1 b) H h (t.append h' (λb hb=>hd b (hG b hb)) (λb hb=>⟨hH b (hG b hb),λhf=>d b hf hb⟩) (λb hb=>⟨CB b hb,λhf=>hd b (hF b hf) hb⟩))
   (λb hb=>hH b (hF b hb)) (λb hb=>hb.1) (λb hb hx=>hx.2 hb)
theorem bE.replicate {l:List PV}{vs:List Value}(h:bE w I l vs bf):∀ n:Nat,bE w I (aa0 n l).flatten (aa0 n vs).flatten bf
 | 0=>.nil _
 | n+1=>by
  simp only[abu,abD]
  exact h.append (h.replicate n) (λ_ h=>h.elim) (λ_ h=>h) (λ_ h=>h)
theorem F9 (z:Array Value):∀ n:Nat,(madeCells z (n * z.size)).toList=(aa0 n z.toList).flatten:=by
 intro n
 apply List.ext_getElem?
 intro k
 have hlen:((aa0 n z.toList).flatten).length=n * z.size:=by simp
 by_cases hk:k < n * z.size
 ·have hz:0 < z.size:=by
   rcases Nat.eq_zero_or_pos z.size with h0 | h0
   ·rw [h0] at hk;omega
   ·exact h0
  have hq:k / z.size < n:=(Nat.div_lt_iff_lt_mul hz).2 hk
  have hm:k % z.size < z.size:=Nat.mod_lt _ hz
  have jl:k=k / z.size * z.size+k % z.size:=by rw[Nat.mul_comm];exact(Nat.div_add_mod k z.size).symm
  have h1:(madeCells z (n * z.size)).toList[k]? =some z[k % z.size]:=by
   simp[madeCells,List.getElem?_map,List.getElem?_range hk,hm]
  have gen:∀(n q r:Nat),q < n->r < z.size->((aa0 n z.toList).flatten)[q * z.size+r]? =z.toList[r]? :=by
   intro n
   induction n with
   | zero=>intro q r hq;omega
   | succ n ih=>
    intro q r hq hr
    simp only[abu,abD]
    cases q with
    | zero=>rw[Nat.zero_mul,Nat.zero_add,List.getElem?_append_left (by simpa using hr)]
    | succ q=>
     rw[List.getElem?_append_right (by simp[ab7];omega)]
     rw[show(q+1) * z.size+r - z.toList.length=q * z.size+r by simp[ab7];omega]
     exact ih q r (by omega) hr
  have h2:=gen n _ _ hq hm
  rw[<- jl] at h2
  rw[h1,h2]
  simp[hm]
 rw[List.getElem?_eq_none (by simp[size_madeCells];omega),List.getElem?_eq_none (by rw[hlen];omega)]
theorem NW {row:Option Nat}(hg:w.grownBy w' row)(hr:∀ k,row=some k->B k)(hB:∀ x,w.heap.size<=x->B x):Kept B w w':=
 ⟨hg.os,hg.tape,hg.output,hg.size,λk hk=>hg.block k (Nat.lt_of_not_le λh=>hk (hB k h)) λe=>hk (hr k e.symm)⟩
theorem CC {N:Nat}{row:Option Nat}(hg:w.grownBy w' row)(hr:∀ k,row=some k->N<=k)(hB:N<=w.heap.size):Below N w w':=
 (Below.refl N w).grown hg hB hr
theorem Ga (hT:fa P T)(h:bz B W0 I0 I val fs σ a w){t:TypeId}{l c:Operand}(ho:o.op=.makeSlice t l c)(hs:nu T σ o.dst t (σ.get l) (σ.get c)=some aA):fR P B W0 I0 o a w aA:=by
 have el:=h.eval l
 have ec:=h.eval c
 unfold nu at hs
 split at hs
 ·rename_i d e sz Af z0 hd ht
  obtain⟨_,_,_,_,_,_,_,_,_,hk⟩:=hT _ _ ht
  have hk:P.underlying t=some (.slice e):=hk
  split at hs
  ·rename_i ie n m hte hl hc
   rw[hl] at el
   rw[hc] at ec
   have el:=eO el
   have ec:=eO ec
   obtain⟨inf,z,hi,hsz,hby,hz,hzr,hzl,hza,_⟩:=hT _ _ hte
   split at hs
   ·rename_i hcond
    simp only[aaR,decide_eq_true_eq] at hcond
    obtain⟨⟨⟨⟨rfl,h0⟩,hb⟩,jm⟩,ug⟩:=hcond
    split at hs
    ·rename_i hbd
     simp only[aaQ.injEq] at hs
     subst hs
     obtain⟨k,rfl⟩:∃ k:Nat,n=(k:Int):=⟨n.toNat,by omega⟩
     have hkb:k * ie.bytes<=140737488355328:=by
      have:((k * ie.bytes:Nat):Int)<=140737488355328:=by rw[Int.natCast_mul];exact hb
      omega
     have hkm:k<=140737488355328:=acf (Nat.le_mul_of_pos_right k jm) hkb
     obtain⟨w1,hrun,how,hgr⟩:=run_make_full (P:=P) w 0 t e inf z ie.size hk hi hz hsz .i64 .i64 k (by rw[hby,Nat.mul_comm];omega) (by simp only[maxLen];omega) (aaW _)
     have hbel:=CC (N:=w.heap.size) hgr (λk hk=>by cases hk) (abr _)
     have h1:=h.grow hbel
     have hzs:z.cells.size=ie.size:=by have:=(hzr w I).len;simp at this;omega
     have hcells:bE w1 I (aa0 k ie.zero).flatten (madeCells z.cells (k * ie.size)).toList bf:=by
      rw[<- hzs,F9]
      exact(hzr w1 I).replicate k
     have hlt:w.heap.size < w1.heap.size:=by
      rcases how.2 with ⟨hv,_⟩ | ⟨g,cap,cur,hv,_,hh,_⟩
      ·cases hv
      simp at hv
      obtain⟨rfl,rfl⟩:=hv
      exact(Array.getElem?_eq_some_iff.1 hh).1
     have hn:=h1.qu hbd (b:=⟨.arr,ie.size,aa0 k ie.zero⟩) (v:=.slice (some ⟨w.heap.size,0,none⟩) k k) (F:=λx=>x=w.heap.size)
      ⟨e,_,bf,λr hr=>by rw[List.eq_of_mem_replicate hr];exact hzl,by simpa using iz.of how,hcells,λ_ h=>h.elim,λb hb=>by simp[Value.ownBlock] at hb;exact⟨hb.symm,λh=>h⟩⟩
      (λx hx=>by subst hx;exact⟨h.size _ (abr _),hlt⟩) (λx hx hI=>by subst hx;have:=h.lt _ hI;omega) (λx hx e' b he hfs=>by subst hx;have:=(h.new e' b he _ hfs).2;omega)
     have hp:=hn.put (some d) (c:=.own d) (v:=.slice (some ⟨w.heap.size,0,none⟩) k k) (by
      have:=bI.own (w:=w1) (I:=I) (val:=eD val d (.slice (some ⟨w.heap.size,0,none⟩) k k)) (bl:=(d,⟨.arr,ie.size,aa0 k ie.zero⟩)::σ.bl) d _ (by rw[bQ,if_pos rfl]) (by intro h;cases h)
      rwa [cb] at this)
     refine⟨.slice (some ⟨w.heap.size,0,none⟩) k k,w1,.inl (by simp[execOp,ho,el,ec,hrun]),?_⟩
     rw[hd]
     exact⟨I,_,_,by simpa [St.put] using hp⟩
    cases hs
   cases hs
  cases hs
 cases hs
def hZ :List Value->Nat->List Value->List Value
 | l,_,[]=>l
 | l,j,c::cs=>hZ (l.set j c) (j+1) cs
theorem aG.fb {bl:List (Nat × aO)}:∀{cs:List PV} {us:List Value},aG w I val bl cs us->∀{l:List PV} {vs:List Value} (j:Nat),aG w I val bl l vs->aG w I val bl (gR l j cs) (hZ vs j us)
 | _,_,.nil,_,_,_,h=>h
 | _,_,.cons c cs u us hc t,_,_,j,h=>aG.fb t (j+1) (h.set j hc)
theorem uh :∀(cs l:List PV) (j:Nat),(gR l j cs).length=l.length
 | [],_,_=>rfl
 | c::cs,l,j=>by simp[gR,uh cs,kK]
theorem J2 {p:PV->Bool}{c:PV}(hc:p c=true):∀{l:List PV} (j:Nat),eK p l=true->eK p (bT l j c)=true
 | [],_,_=>rfl
 | x::l,0,h=>by simp only[eK,aaR] at h;simp[bT,eK,hc,h.2]
 | x::l,j+1,h=>by simp only[eK,aaR] at h;simp[bT,eK,h.1,J2 hc j h.2]
theorem Hs {p:PV->Bool}:∀{cs:List PV},eK p cs=true->∀{l:List PV} (j:Nat),eK p l=true->eK p (gR l j cs)=true
 | [],_,_,_,h=>h
 | c::cs,hc,l,j,h=>by
  simp only[eK,aaR] at hc
  exact Hs hc.2 (j+1) (J2 hc.1 j h)
theorem Ht (off:Nat):∀(us:List Value) (k:Nat) (cells:Array Value),((us.zipIdx k).foldl (λcs x=>cs.setIfInBounds (off+x.2) x.1) cells).toList=hZ cells.toList (off+k) us
 | [],_,_=>rfl
 | u::us,k,cells=>by
  simp only[acG,List.foldl_cons,hZ]
  rw[Ht off us (k+1)]
  simp[Nat.add_assoc]
theorem J3 {bl:List (Nat × aO)}(ho:F8 val bl){gP:List (Nat × Nat)}(h:bz B W0 I0 I val fs σ a w)(hbl:bl=σ.bl):∀(ps:List (Nat × Operand)) (l l':List PV) (cells:Array Value),
  aG w I val bl l cells.toList->eK fY l=true->sa gP σ l ps=some l'->
  ∃ Ek,Instr.fill (λi=>gP[i]?) cells (ps.map λx=>(x.1,a.eval x.2))=some Ek/\aG w I val bl l' Ek.toList
 | [],l,l',cells,hr,_,hb=>by
  simp only[sa,aaQ.injEq] at hb
  subst hb
  exact⟨cells,rfl,hr⟩
 | (i,x)::ps,l,l',cells,hr,hall,hb=>by
  simp only[sa] at hb
  split at hb
  ·rename_i off sz hf
   split at hb
   ·rename_i hc
    simp only[aaR] at hc
    obtain⟨⟨h1,h2⟩,h3⟩:=hc
    have h1:=eZ h1
    have h2:=wZ h2
    subst hbl
    have hx:=vk ho (h.eval x) h3
    have hsz:(a.eval x).cells.size=sz:=by have:=hx.len;simp at this;omega
    have hcl:cells.size=l.length:=by have:=hr.len;simpa using this
    have Vz:=Ht off (a.eval x).cells.toList 0 cells
    have hz:((a.eval x).cells.zipIdx.foldl (λcs x=>cs.setIfInBounds (off+x.2) x.1) cells).toList=hZ cells.toList off (a.eval x).cells.toList:=by
     rw[<- Array.foldl_toList,Array.toList_zipIdx];simpa using Vz
    obtain⟨Ek,J4,nT⟩:=J3 ho h rfl ps (gR l off (cellsOf (σ.get x))) l' ((a.eval x).cells.zipIdx.foldl (λcs x=>cs.setIfInBounds (off+x.2) x.1) cells)
     (by rw[hz];exact hx.fb off hr) (Hs h3 off hall) hb
    refine⟨Ek,?_,nT⟩
    simp only[abL,Instr.fill,hf]
    rw[if_neg (by simp;omega)]
    exact J4
   cases hb
  cases hb
theorem NX (hT:fa P T)(h:bz B W0 I0 I val fs σ a w){t:TypeId}{ps:Array (Nat × Operand)}(ho:o.op=.build t ps)(hs:xc T σ o.dst t ps.toList=some aA):fR P B W0 I0 o a w aA:=by
 unfold xc at hs
 split at hs
 ·rename_i gP sz Af z0 ht
  obtain⟨inf,z,hi,hsz,hby,hz,hzr,hzl,hza,fields,hu,hm,_⟩:=hT _ _ ht
  split at hs
  ·rename_i l hl
   simp only[aaQ.injEq] at hs
   subst hs
   have dQ:aG w I val σ.bl z0 z.cells.toList:=(hzr w I).cC (hza.resolve_left (λh=>by cases h))
   obtain⟨cells,hfill,hrel⟩:=J3 h.uf h rfl ps.toList z0 l z.cells dQ (Ae (hza.resolve_left (λh=>by cases h))) hl
   have hb:P.built t (ps.map fun(i,x)=>(i,a.eval x)).toList=some cells:=by
    unfold Program.built
    rw[hi,hu]
    simp only[hz]
    rw[hm]
    simpa using hfill
   have hrun:=run_build (P:=P) w t (ps.map fun(i,x)=>(i,a.eval x)) cells hb
   refine h.value (v:=.agg cells) ?_ ?_
   ·simp only[execOp,ho,Sem.run_bind,hrun,Result.andThen_ok,Sem.run_pure]
   have:=bI.agg (w:=w) (I:=I) (val:=val) (bl:=σ.bl) l cells.toList hrel
   simpa using this
  cases hs
 cases hs
theorem qv (hT:fa P T)(h:bz B W0 I0 I val fs σ a w){t:TypeId}{len:Nat}{ps:Array (Nat × Operand)}(ho:o.op=.buildSlice t len ps)(hs:jH T σ o.dst t len ps.toList=some aA):fR P B W0 I0 o a w aA:=by
 unfold jH at hs
 split at hs
 ·rename_i d e sz Af z0 hd ht
  obtain⟨_,_,_,_,_,_,_,_,_,hk⟩:=hT _ _ ht
  have hk:P.underlying t=some (.slice e):=hk
  split at hs
  ·rename_i ie hte hps
   obtain⟨inf,z,hi,hsz,hby,hz,hzr,hzl,hza,_⟩:=hT _ _ hte
   split at hs
   ·rename_i hbd
    simp only[aaQ.injEq] at hs
    subst hs
    have RU:ps=#[]:=by simpa using hps
    subst RU
    have h1:=h.grow (mh w (.cells #[] e))
    have hn:=h1.qu hbd (b:=⟨.arr,ie.size,[]⟩) (v:=.slice (some ⟨w.heap.size,0,none⟩) 0 0) (F:=λx=>x=w.heap.size)
     ⟨e,[],bf,λr hr=>by simp at hr,⟨by simp,.inr ⟨w.heap.size,0,#[],rfl,aaW _,heap_alloc_new w _,abr _,aaW _,by simp,by simp⟩⟩,.nil _,λ_ h=>h.elim,
      λb hb=>by simp[Value.ownBlock] at hb;exact⟨hb.symm,λh=>h⟩⟩
     (λx hx=>by subst hx;rw[tu];exact⟨h.size _ (abr _),by omega⟩) (λx hx hI=>by subst hx;have:=h.lt _ hI;omega) (λx hx e' b he hfs=>by subst hx;have:=(h.new e' b he _ hfs).2;omega)
    have hp:=hn.put (some d) (c:=.own d) (v:=.slice (some ⟨w.heap.size,0,none⟩) 0 0) (by
     have:=bI.own (w:=w.alloc (.cells #[] e)) (I:=I) (val:=eD val d (.slice (some ⟨w.heap.size,0,none⟩) 0 0)) (bl:=(d,⟨.arr,ie.size,[]⟩)::σ.bl) d _ (by rw[bQ,if_pos rfl]) (by intro h;cases h)
     rwa [cb] at this)
    refine⟨.slice (some ⟨w.heap.size,0,none⟩) 0 0,w.alloc (.cells #[] e),.inl ?_,?_⟩
    ·have dQ:Array.range 0=#[]:=rfl
     simp[execOp,ho,Instr.buildSlice,run_underlying hk,sizeOf,typeInfo,hi,program,Sem.run,Instr.fill,newRow,newObj,dQ]
    rw[hd]
    exact⟨I,_,_,hp⟩
   cases hs
  ·rename_i ie x hte hps
   obtain⟨inf,z,hi,hsz,hby,hz,hzr,hzl,hza,_⟩:=hT _ _ hte
   split at hs
   ·rename_i hc
    simp only[aaR,decide_eq_true_eq] at hc
    obtain⟨⟨⟨jI,aJ⟩,cL⟩,mi⟩:=hc
    have jI:=eZ jI
    split at hs
    ·rename_i hbd
     simp only[aaQ.injEq] at hs
     subst hs
     have RU:ps=#[(0,x)]:=by
      apply Array.ext'
      simpa using hps
     subst RU
     have hr:=vk h.uf (h.eval x) mi
     have hxs:(a.eval x).cells.size=ie.size:=by have:=hr.len;simp at this;omega
     have hn:=h.newRow hbd (k:=.lit) (t:=e) (sz:=ie.size) (v:=.slice (some ⟨w.heap.size,0,none⟩) 1 1) hr jI (pU h.uf hr mi) (.inr ⟨rfl,rfl,aJ⟩)
     have hp:=hn.put (some d) (c:=.own d) (v:=.slice (some ⟨w.heap.size,0,none⟩) 1 1) (by
      have:=bI.own (w:=w.alloc (.cells (a.eval x).cells e)) (I:=I) (val:=eD val d (.slice (some ⟨w.heap.size,0,none⟩) 1 1)) (bl:=(d,⟨.lit,ie.size,[cellsOf (σ.get x)]⟩)::σ.bl) d _ (by rw[bQ,if_pos rfl]) (by intro h;cases h)
      rwa [cb] at this)
     have hfill:=Great.fill_whole (s:=inf.size) (by omega) [a.eval x] ((Array.range (1 * inf.size)).map (z.cells[· % z.cells.size]!)) (by simp;omega) (by simp)
     have hrun:=run_buildSlice (P:=P) w t e 1 #[(0,a.eval x)] (a.eval x).cells inf z hk hi hz (by omega) (by omega) (by simpa using hfill)
     refine⟨.slice (some ⟨w.heap.size,0,none⟩) 1 1,w.alloc (.cells (a.eval x).cells e),.inl (by simp[execOp,ho,hrun]),?_⟩
     rw[hd]
     exact⟨I,_,_,hp⟩
    cases hs
   cases hs
  cases hs
 cases hs
theorem yh (h:bz B W0 I0 I val fs σ a w):∀(ps:List (Nat × Operand)) (i:Nat) (rows:List (List PV)),kR σ i ps=some rows->
  ∃ vs:List Value,ps.map (λx=>(x.1,a.eval x.2))=(vs.zipIdx i).map (λx=>(x.2,x.1))/\rows.length=vs.length/\(∀ w' I',bE w' I' rows.flatten vs bf)/\(∀ v∈vs,v.cells=#[v])/\(∀ r∈rows,r.length=1)
 | [],i,rows,hp=>by
  simp only[kR,aaQ.injEq] at hp
  subst hp
  exact⟨[],rfl,rfl,λ_ _=>.nil _,by simp,by simp⟩
 | (j,x)::l,i,rows,hp=>by
  simp only[kR] at hp
  split at hp
  ·rename_i s hj hx
   split at hp
   ·rename_i rs hrs
    simp only[aaQ.injEq] at hp
    subst hp
    obtain⟨vs,h1,h2,h3,h4,h5⟩:=yh h l (i+1) rs hrs
    have e:=h.eval x
    rw[hx] at e
    have e:=nw e
    refine⟨a.eval x::vs,?_,by simp[h2],λw' I'=>?_,?_,?_⟩
    ·simp only[abL,acG,h1,eZ hj]
    ·rw [e]
     exact .cons _ _ _ _ bf bf bf (.str _ _) (h3 w' I') (λ_ h=>h) (λ_ h=>h) (λ_ h=>h.elim)
    ·intro v hv
     rcases aa9.1 hv with rfl | hv
     ·rw [e];rfl
     exact h4 v hv
    intro r hr
    rcases aa9.1 hr with rfl | hr
    ·rfl
    exact h5 r hr
   cases hp
  ·rename_i k n hj hx
   split at hp
   ·rename_i rs hrs
    simp only[aaQ.injEq] at hp
    subst hp
    obtain⟨vs,h1,h2,h3,h4,h5⟩:=yh h l (i+1) rs hrs
    have e:=h.eval x
    rw[hx] at e
    have e:=eO e
    refine⟨a.eval x::vs,?_,by simp[h2],λw' I'=>?_,?_,?_⟩
    ·simp only[abL,acG,h1,eZ hj]
    ·rw [e]
     exact .cons _ _ _ _ bf bf bf (.int _ _ _) (h3 w' I') (λ_ h=>h) (λ_ h=>h) (λ_ h=>h.elim)
    ·intro v hv
     rcases aa9.1 hv with rfl | hv
     ·rw [e];rfl
     exact h4 v hv
    intro r hr
    rcases aa9.1 hr with rfl | hr
    ·rfl
    exact h5 r hr
   cases hp
  cases hp
theorem CD (hT:fa P T)(h:bz B W0 I0 I val fs σ a w){t:TypeId}{len:Nat}{ps:Array (Nat × Operand)}(ho:o.op=.buildSlice t len ps)(hs:pG T σ o.dst t len ps.toList=some aA):fR P B W0 I0 o a w aA:=by
 unfold pG at hs
 split at hs
 ·rename_i d e sz Af z0 hd ht
  obtain⟨_,_,_,_,_,_,_,_,_,hk⟩:=hT _ _ ht
  have hk:P.underlying t=some (.slice e):=hk
  split at hs
  ·rename_i ie rows hte hps hbd
   obtain⟨inf,z,hi,hsz,hby,hz,hzr,hzl,hza,_⟩:=hT _ _ hte
   split at hs
   ·rename_i hc
    simp only[aaR] at hc
    obtain⟨⟨⟨jI,aJ⟩,mi⟩,cL⟩:=hc
    have jI:=eZ jI
    have aJ:=eZ aJ
    have mi:=zU mi
    have cL:=wZ cL
    simp only[aaQ.injEq] at hs
    subst hs
    obtain⟨vs,h1,h2,h3,h4,h5⟩:=yh h _ _ _ hps
    have nU:inf.size=1:=by omega
    have hfill:=Great.fill_flat vs ((Array.range (len * inf.size)).map (z.cells[· % z.cells.size]!)) h4 (by simp[nU];omega)
    have hpm:(ps.map fun(i,x)=>(i,a.eval x)).toList=(vs.zipIdx 0).map (λx=>(x.2,x.1)):=by
     rw[Array.toList_map];exact h1
    have hrun:=run_buildSlice (P:=P) w t e len (ps.map fun(i,x)=>(i,a.eval x)) vs.toArray inf z hk hi hz (by rw[nU];omega) (by rw[nU];omega) (by rw[hpm,nU];rw[nU] at hfill;exact hfill)
    have h':=h.grow (mh w (.cells vs.toArray e))
    have hn:=h'.qu hbd (b:=⟨.arr,1,rows⟩) (v:=.slice (some ⟨w.heap.size,0,none⟩) len len) (F:=λx=>x=w.heap.size)
     ⟨e,vs,bf,h5,⟨by simp[h2],.inr ⟨w.heap.size,len,vs.toArray,by rw[aJ],aaW _,heap_alloc_new w _,Nat.le_of_eq aJ.symm,by simp only[maxLen];omega,by simp;omega,by simp[h2]⟩⟩,h3 _ _,λ_ h=>h.elim,
      λb hb=>by simp[Value.ownBlock] at hb;exact⟨hb.symm,λh=>h⟩⟩
     (λx hx=>by subst hx;rw[tu];exact⟨h.size _ (abr _),by omega⟩) (λx hx hI=>by subst hx;have:=h.lt _ hI;omega) (λx hx e' b he hfs=>by subst hx;have:=(h.new e' b he _ hfs).2;omega)
    have hp:=hn.put (some d) (c:=.own d) (v:=.slice (some ⟨w.heap.size,0,none⟩) len len) (by
     have:=bI.own (w:=w.alloc (.cells vs.toArray e)) (I:=I) (val:=eD val d (.slice (some ⟨w.heap.size,0,none⟩) len len)) (bl:=(d,⟨.arr,1,rows⟩)::σ.bl) d _ (by rw[bQ,if_pos rfl]) (by intro h;cases h)
     rwa [cb] at this)
    refine⟨.slice (some ⟨w.heap.size,0,none⟩) len len,w.alloc (.cells vs.toArray e),.inl (by simp[execOp,ho,hrun]),?_⟩
    rw[hd]
    exact⟨I,_,_,hp⟩
   cases hs
  cases hs
 cases hs
theorem El (h:bz B W0 I0 I val fs σ a w):∀(ps:List (Nat × Operand)) (i:Nat) (r:List PV),xd σ i ps=some r->
  ∃ vs:List Value,ps.map (λx=>(x.1,a.eval x.2))=(vs.zipIdx i).map (λx=>(x.2,x.1))/\aG w I val σ.bl r vs/\(∀ v∈vs,One v)
 | [],i,r,hp=>by
  simp only[xd,aaQ.injEq] at hp
  subst hp
  exact⟨[],rfl,.nil,by simp⟩
 | (j,x)::l,i,r,hp=>by
  simp only[xd] at hp
  split at hp
  ·rename_i hj hs
   split at hp
   ·rename_i rs hrs
    simp only[aaQ.injEq] at hp
    subst hp
    obtain⟨vs,h1,h2,h3⟩:=El h l (i+1) rs hrs
    have hsb:fY (σ.get x)=true:=by
     revert hs
     cases σ.get x<;>intro hs<;>first | exact hs | cases hs
    have e:=h.eval x
    refine⟨a.eval x::vs,?_,.cons _ _ _ _ e h2,?_⟩
    ·simp only[abL,acG,h1,eZ hj]
    intro v hv
    rcases aa9.1 hv with rfl | hv
    ·exact J1 h.uf e hsb
    exact h3 v hv
   cases hp
  cases hp
theorem L9 (hT:fa P T)(h:bz B W0 I0 I val fs σ a w){t:TypeId}{len:Nat}{ps:Array (Nat × Operand)}(ho:o.op=.buildSlice t len ps)(hs:yf T σ o.dst t len ps.toList=some aA):fR P B W0 I0 o a w aA:=by
 unfold yf at hs
 split at hs
 ·rename_i d e sz Af z0 hd ht
  obtain⟨_,_,_,_,_,_,_,_,_,hk⟩:=hT _ _ ht
  have hk:P.underlying t=some (.slice e):=hk
  split at hs
  ·rename_i ie r hte hps hbd
   obtain⟨inf,z,hi,hsz,hby,hz,hzr,hzl,hza,_⟩:=hT _ _ hte
   split at hs
   ·rename_i hc
    simp only[aaR] at hc
    obtain⟨⟨⟨jI,aJ⟩,mi⟩,cL⟩:=hc
    have jI:=eZ jI
    have aJ:=eZ aJ
    have mi:=zU mi
    have cL:=wZ cL
    simp only[aaQ.injEq] at hs
    subst hs
    obtain⟨vs,h1,h2,h4⟩:=El h _ _ _ hps
    have kL:=h2.len
    have nU:inf.size=1:=by omega
    have hfill:=Great.fill_flat vs ((Array.range (len * inf.size)).map (z.cells[· % z.cells.size]!)) (λv hv=>(h4 v hv).1) (by simp[nU];omega)
    have hpm:(ps.map fun(i,x)=>(i,a.eval x)).toList=(vs.zipIdx 0).map (λx=>(x.2,x.1)):=by
     rw[Array.toList_map];exact h1
    have hrun:=run_buildSlice (P:=P) w t e len (ps.map fun(i,x)=>(i,a.eval x)) vs.toArray inf z hk hi hz (by rw[nU];omega) (by rw[nU];omega) (by rw[hpm,nU];rw[nU] at hfill;exact hfill)
    have h':=h.grow (mh w (.cells vs.toArray e))
    have nT:aG (w.alloc (.cells vs.toArray e)) I (eD val d (.slice (some ⟨w.heap.size,0,none⟩) len len)) ((d,⟨.mul,1,[r]⟩)::σ.bl) r vs:=
     aG.frame (λx hx=>(mh w (.cells vs.toArray e)).block x (h.lt x hx)) (λ_ h=>h) (ext_cons hbd) h2
    have hn:=h'.qu hbd (b:=⟨.mul,1,[r]⟩) (v:=.slice (some ⟨w.heap.size,0,none⟩) len len) (F:=λx=>x=w.heap.size)
     ⟨w.heap.size,by rw[aJ],rfl,e,vs.toArray,rfl,heap_alloc_new w _,by simpa using nT,rfl,λu hu=>(h4 u (by simpa using hu)).2⟩
     (λx hx=>by subst hx;rw[tu];exact⟨h.size _ (abr _),by omega⟩) (λx hx hI=>by subst hx;have:=h.lt _ hI;omega) (λx hx e' b he hfs=>by subst hx;have:=(h.new e' b he _ hfs).2;omega)
    have hp:=hn.put (some d) (c:=.own d) (v:=.slice (some ⟨w.heap.size,0,none⟩) len len) (by
     have:=bI.own (w:=w.alloc (.cells vs.toArray e)) (I:=I) (val:=eD val d (.slice (some ⟨w.heap.size,0,none⟩) len len)) (bl:=(d,⟨.mul,1,[r]⟩)::σ.bl) d _ (by rw[bQ,if_pos rfl]) (by intro h;cases h)
     rwa [cb] at this)
    refine⟨.slice (some ⟨w.heap.size,0,none⟩) len len,w.alloc (.cells vs.toArray e),.inl (by simp[execOp,ho,hrun]),?_⟩
    rw[hd]
    exact⟨I,_,_,hp⟩
   cases hs
  cases hs
 cases hs
theorem Ma (hT:fa P T)(h:bz B W0 I0 I val fs σ a w)(hs:eC T σ o=some aA):fR P B W0 I0 o a w aA:=by
 unfold eC at hs
 split at hs
 ·rename_i t0 x ho
  split at hs
  ·rename_i k n hx
   simp only[aaQ.injEq] at hs;subst hs
   have e:=h.eval x
   rw[hx] at e
   have e:=eO e
   exact h.value (v:=.int k (k.wrap (0 - n))) (by simp[execOp,ho,e,Op.unary,Op.intArith]) (.leaf _ _ rfl (.int _ _ _))
  cases hs
 ·rename_i t len ps ho
  split at hs
  ·rename_i aR hq
   simp only[aaQ.injEq] at hs;subst hs
   exact CD hT h ho hq
  exact L9 hT h ho hs
 ·rename_i t x lo hi ho
  split at hs
  ·rename_i s kl l kh m ht hx hl hh
   split at hs
   ·rename_i hc
    simp only[aaQ.injEq] at hs;subst hs
    simp only[aaR,decide_eq_true_eq] at hc
    obtain⟨⟨h0,h1⟩,h2⟩:=hc
    obtain⟨_,_,_,_,_,_,_,_,_,hk⟩:=hT _ _ ht
    have hk:P.underlying t=some .string:=hk
    have ex:=h.eval x
    rw[hx] at ex
    have ex:=nw ex
    have el:=h.eval lo
    rw[hl] at el
    have el:=eO el
    have eh:=h.eval hi
    rw[hh] at eh
    have eh:=eO eh
    have hrun:(Instr.sliceAt t (.string s) (some (.int kl l)) (some (.int kh m)) none).run P w=.ok (.string (s.extract l.toNat m.toNat)) w:=by
     rw[run_sliceAt_string (h:=hk)]
     have e1:(l.toNat:Int)=l:=abN h0
     have e2:(m.toNat:Int)=m:=abN (by omega)
     simp[Instr.slice,run_underlying hk,Instr.sliceBounds,run_sliceBound,sliced,h0,h1,h2,e1,e2,(by omega:0<=m)]
    refine h.value (v:=.string (s.extract l.toNat m.toNat)) ?_ (.leaf _ _ rfl (.str _ _))
    simp[execOp,ho,ex,el,eh,hrun]
   cases hs
  cases hs
 ·rename_i t x hi ho
  split at hs
  ·rename_i s kh m ht hx hh
   split at hs
   ·rename_i hc
    simp only[aaQ.injEq] at hs;subst hs
    simp only[aaR,decide_eq_true_eq] at hc
    obtain⟨h1,h2⟩:=hc
    obtain⟨_,_,_,_,_,_,_,_,_,hk⟩:=hT _ _ ht
    have hk:P.underlying t=some .string:=hk
    have ex:=h.eval x
    rw[hx] at ex
    have ex:=nw ex
    have eh:=h.eval hi
    rw[hh] at eh
    have eh:=eO eh
    have hrun:(Instr.sliceAt t (.string s) none (some (.int kh m)) none).run P w=.ok (.string (s.extract 0 m.toNat)) w:=by
     rw[run_sliceAt_string (h:=hk)]
     have e2:(m.toNat:Int)=m:=abN (by omega)
     simp[Instr.slice,run_underlying hk,Instr.sliceBounds,run_sliceBound,sliced,h1,h2,e2]
    refine h.value (v:=.string (s.extract 0 m.toNat)) ?_ (.leaf _ _ rfl (.str _ _))
    simp[execOp,ho,ex,eh,hrun]
   cases hs
  cases hs
 ·rename_i t x lo ho
  split at hs
  ·rename_i s kl l ht hx hl
   split at hs
   ·rename_i hc
    simp only[aaQ.injEq] at hs;subst hs
    simp only[aaR,decide_eq_true_eq] at hc
    obtain⟨h0,h1⟩:=hc
    obtain⟨_,_,_,_,_,_,_,_,_,hk⟩:=hT _ _ ht
    have hk:P.underlying t=some .string:=hk
    have ex:=h.eval x
    rw[hx] at ex
    have ex:=nw ex
    have el:=h.eval lo
    rw[hl] at el
    have el:=eO el
    have hrun:(Instr.sliceAt t (.string s) (some (.int kl l)) none none).run P w=.ok (.string (s.extract l.toNat s.size)) w:=by
     rw[run_sliceAt_string (h:=hk)]
     have e1:(l.toNat:Int)=l:=abN h0
     simp[Instr.slice,run_underlying hk,Instr.sliceBounds,run_sliceBound,sliced,h0,h1,e1]
    refine h.value (v:=.string (s.extract l.toNat s.size)) ?_ (.leaf _ _ rfl (.str _ _))
    simp[execOp,ho,ex,el,hrun]
   cases hs
  cases hs
 ·rename_i c ho
  obtain⟨callee,args,types⟩:=c
  simp only at hs
  split at hs
  ·rename_i x y hargs
   split at hs
   ·rename_i p q hx hy
    simp only[aaQ.injEq] at hs;subst hs
    have J5:args=#[x,y]:=by apply Array.ext';simpa using hargs
    subst J5
    have ex:=h.eval x
    rw[hx] at ex
    have ex:=eO ex
    have ey:=h.eval y
    rw[hy] at ey
    have ey:=eO ey
    have hm:(if q > p then q else p)=max p q:=by split<;>omega
    refine h.value (v:=.int .i64 (max p q)) ?_ (.leaf _ _ rfl (.int _ _ _))
    simp[execOp,ho,resolve,invoke,builtin,Builtin.max_,Builtin.max2,ex,ey,<- hm]
   cases hs
  ·rename_i x y hargs
   split at hs
   ·rename_i p q hx hy
    simp only[aaQ.injEq] at hs;subst hs
    have J5:args=#[x,y]:=by apply Array.ext';simpa using hargs
    subst J5
    have ex:=h.eval x
    rw[hx] at ex
    have ex:=eO ex
    have ey:=h.eval y
    rw[hy] at ey
    have ey:=eO ey
    have hm:(if q < p then q else p)=min p q:=by split<;>omega
    refine h.value (v:=.int .i64 (min p q)) ?_ (.leaf _ _ rfl (.int _ _ _))
    simp[execOp,ho,resolve,invoke,builtin,Builtin.min_,Builtin.min2,ex,ey,<- hm]
   cases hs
  cases hs
 ·rename_i t0 x y t1 ho
  split at hs
  ·rename_i k p kb q hx hy
   split at hs
   ·rename_i hc
    simp only[aaQ.injEq] at hs;subst hs
    simp only[aaR,decide_eq_true_eq] at hc
    have ex:=h.eval x
    rw[hx] at ex
    have ex:=eO ex
    have ey:=h.eval y
    rw[hy] at ey
    have ey:=eO ey
    have hn:min q.toNat k.bits=q.toNat:=by omega
    refine h.value (v:=.int k (p.fdiv (2 ^ q.toNat))) ?_ (.leaf _ _ rfl (.int _ _ _))
    have hg:(eqGuard .shr t0 x y (.int k p) (.int kb q)).run P w=.ok () w:=by
     unfold eqGuard
     split<;>simp_all [Sem.run]
    have hb:(binOp .shr t0 (.int k p) (.int kb q)).run P w=.ok (.int k (p.fdiv (2 ^ q.toNat))) w:=by
     simp[binOp,Op.shift,show ¬ q < 0 by omega,hn]
    simp[execOp,ho,ex,ey,hg,hb]
   cases hs
  cases hs
 ·rename_i t0 x y t1 ho
  split at hs
  ·rename_i k p kb q hx hy
   split at hs
   ·rename_i hc
    simp only[aaQ.injEq] at hs;subst hs
    simp only[aaR,decide_eq_true_eq] at hc
    have ex:=h.eval x
    rw[hx] at ex
    have ex:=eO ex
    have ey:=h.eval y
    rw[hy] at ey
    have ey:=eO ey
    have hn:min q.toNat k.bits=q.toNat:=by omega
    refine h.value (v:=.int k (k.wrap (p * 2 ^ q.toNat))) ?_ (.leaf _ _ rfl (.int _ _ _))
    have hg:(eqGuard .shl t0 x y (.int k p) (.int kb q)).run P w=.ok () w:=by
     unfold eqGuard
     split<;>simp_all [Sem.run]
    have hb:(binOp .shl t0 (.int k p) (.int kb q)).run P w=.ok (.int k (k.wrap (p * 2 ^ q.toNat))) w:=by
     simp[binOp,Op.shift,show ¬ q < 0 by omega,hn]
    simp[execOp,ho,ex,ey,hg,hb]
   cases hs
  cases hs
 ·rename_i t x f ho
  split at hs
  ·rename_i fs fl one sz Af zz cs ht hx
   split at hs
   ·rename_i off vl hfs hone
    split at hs
    ·rename_i c hc
     simp only[aaQ.injEq] at hs;subst hs
     obtain⟨_,_,_,_,_,_,_,_,_,fields,hu,hm,_,ho1⟩:=hT _ _ ht
     obtain⟨fd,inf,hfd,hoff,_,_⟩:=Di _ _ hm f off vl hfs
     have Vz:=ho1 f fd hone hfd
     have er:=h.eval x
     rw[hx] at er
     generalize hv:a.eval x=v at er
     cases er with
     | leaf c v hl h=>cases hl
     | agg cs vs hr=>
      have hl:=hr.len
      obtain⟨hlt,hce⟩:=List.getElem?_eq_some_iff.1 hc
      have hvo:vs[off]? =some (vs[off]'(by omega)):=List.getElem?_eq_getElem (by omega)
      refine h.value (v:=vs[off]'(by omega)) ?_ (hr.Dj off hc hvo)
      have aac:fields[f]? =some fd:=by simpa using hfd
      have hag:(isAgg fd.type).run P w=.ok false w:=by
       unfold isAgg
       rcases Vz with ⟨e,he⟩ | ⟨e,he⟩<;>(rw [Sem.run_bind,run_underlying he w];rfl)
      have hpart:(part fd.type vs.toArray fd.offset).run P w=.ok (vs[off]'(by omega)) w:=by
       unfold part
       rw[Sem.run_bind,hag,Result.andThen_ok]
       simp[hoff,hvo,Sem.run]
      simp[execOp,ho,hv,Instr.field,run_underlying hu,aac,hpart,asAgg]
    cases hs
   cases hs
  cases hs
 cases hs
end
end Go.Av

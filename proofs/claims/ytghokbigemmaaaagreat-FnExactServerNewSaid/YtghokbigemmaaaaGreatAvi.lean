/- Lemmas and walks for FnExactServerNew: what each function of the program and of the reference comes to. -/
import Derived.Test.YtghokbigemmaaaaGreatAvq3
open Option renaming some→aaQ,map_some→ab2,map_none→ach
open Bool renaming and_eq_true→aaR,or_eq_true→abU
open List renaming mem_cons_of_mem→aaX,mem_cons_self→aa2,mem_cons→aa9,mem_singleton→aba,mem_append_right→abe,append_nil→abm,mem_append_left→abp,cons_append→abt
open Prod renaming mk→acg
namespace Go.Av
open Go Go.RowKit
set_option linter.unusedVariables false
set_option linter.unusedSimpArgs false
section
variable {P : Program} {A : ax} {T : dA} {X : Spec} {σ aA τ : St} {o : Oper} {R : Array Oper}
structure AS where
 sl:List PV
 m:Nat->Option aO
 hd:List (Nat × Value)
def St.abs (σ:St):AS:=⟨σ.sl,av σ.bl,σ.hd⟩
structure cQ where
 D:List Nat
 d:Option Tmp
 v:PV
 U:List (Nat × Option aO)
def fy :List Nat->List PV->List PV
 | [],l=>l
 | d::D,l=>fy D (fp d l)
def jj :List Nat->PV->PV
 | [],v=>v
 | d::D,v=>jj D (kill d v)
def kS :List Nat->aO->aO
 | [],b=>b
 | d::D,b=>kS D (nJ d b)
def oJ :List Nat->List (Nat × Value)->List (Nat × Value)
 | [],l=>l
 | d::D,l=>oJ D (iS l d)
def eG :List (Nat × Option aO)->Nat->Option (Option aO)
 | [],_=>none
 | (e,b)::l,k=>bif nq e k then some b else eG l k
def jP (l:List PV):Option Tmp->PV->List PV
 | none,_=>l
 | some d,v=>bT l d v
def cQ.m (e:cQ)(s:Nat->Option aO)(k:Nat):Option aO:=match eG e.U k with
 | some x=>x
 | none=>(s k).map (kS e.D)
def cQ.app (e:cQ)(s:AS):AS:=⟨jP (fy e.D s.sl) e.d e.v,e.m s.m,oJ e.D s.hd⟩
mutual
def nK (H:List Nat):PV->Bool
 | .own d=>qp d H
 | .pt d _ _=>qp d H
 | .aa=>false
 | .agg cs=>uo H cs
 | .aw vs=>uo H vs
 | .fn _ caps=>uo H caps
 | _=>true
def uo (H:List Nat):List PV->Bool
 | []=>true
 | c::l=>nK H c && uo H l
end
theorem vu {d:Nat}:∀{l:List Nat},qp d l=true↔d∈l
 | []=>by simp[qp]
 | e::l=>by
  rw[qp,abU,vu (l:=l),aa9]
  constructor
  ·rintro(h | h)
   ·exact .inl (eZ h).symm
   exact .inr h
  rintro(h | h)
  ·exact .inl (by rw[h];exact wY e)
  exact .inr h
mutual
theorem Mz {H:List Nat}{d:Nat}(hd:d ∉ H):∀{v:PV},nK H v=true->kill d v=v
 | .own e,h=>by
  have hm:=vu.1 (show qp e H=true by simpa [nK] using h)
  rw[kill,beq_false (λhh=>hd (by rw[<- hh];exact hm)),cond_false]
 | .pt e _ _,h=>by
  have hm:=vu.1 (show qp e H=true by simpa [nK] using h)
  rw[kill,beq_false (λhh=>hd (by rw[<- hh];exact hm)),cond_false]
 | .aa,h=>by simp[nK] at h
 | .agg cs,h=>by rw[kill,uq hd (by simpa [nK] using h)]
 | .aw vs,h=>by rw[kill,uq hd (by simpa [nK] using h)]
 | .fn f caps,h=>by rw[kill,uq hd (by simpa [nK] using h)]
 | .int _ _,_=>by simp[kill]
 | .bool _,_=>by simp[kill]
 | .str _,_=>by simp[kill]
 | .zc,_=>by simp[kill]
 | .sl _ _,_=>by simp[kill]
 | .ow _ _,_=>by simp[kill]
 | .rd _,_=>by simp[kill]
 | .raw _,_=>by simp[kill]
theorem uq {H:List Nat}{d:Nat}(hd:d ∉ H):∀{l:List PV},uo H l=true->fp d l=l
 | [],_=>rfl
 | c::l,h=>by
  simp only[uo,aaR] at h
  rw[fp,Mz hd h.1,uq hd h.2]
end
mutual
theorem MA {H:List Nat}(d:Nat):∀{v:PV},nK H (kill d v)=true->kill d v=v
 | .own e,h=>by
  rw[kill] at h ⊢
  cases hq:nq e d with
  | true=>rw[hq] at h;simp[nK] at h
  | false=>rfl
 | .pt e i j,h=>by
  rw[kill] at h ⊢
  cases hq:nq e d with
  | true=>rw[hq] at h;simp[nK] at h
  | false=>rfl
 | .aa,h=>by simp[kill]
 | .agg cs,h=>by rw[kill] at h ⊢;rw[ur (H:=H) d (by simpa [nK] using h)]
 | .aw vs,h=>by rw[kill] at h ⊢;rw[ur (H:=H) d (by simpa [nK] using h)]
 | .fn f caps,h=>by rw[kill] at h ⊢;rw[ur (H:=H) d (by simpa [nK] using h)]
 | .int _ _,_=>by simp[kill]
 | .bool _,_=>by simp[kill]
 | .str _,_=>by simp[kill]
 | .zc,_=>by simp[kill]
 | .sl _ _,_=>by simp[kill]
 | .ow _ _,_=>by simp[kill]
 | .rd _,_=>by simp[kill]
 | .raw _,_=>by simp[kill]
theorem ur {H:List Nat}(d:Nat):∀{l:List PV},uo H (fp d l)=true->fp d l=l
 | [],_=>rfl
 | c::l,h=>by
  simp only[fp,uo,aaR] at h
  rw[fp,MA (H:=H) d h.1,ur (H:=H) d h.2]
end
def okB (H:List Nat):aO->Bool
 | ⟨.arr,_,_⟩=>true
 | ⟨_,_,[r]⟩=>uo H r
 | _=>false
theorem Sa {H:List Nat}{d:Nat}(hd:d ∉ H){b:aO}(h:okB H b=true):nJ d b=b:=by
 obtain⟨k,sz,rows⟩:=b
 cases k
 case arr=>rfl
 all_goals
  match rows,h with
  | [],h=>cases h
  | [r],h=>
   have h:uo H r=true:=h
   show(⟨_,sz,[fp d r]⟩:aO)=_
   rw[uq hd h]
  | _::_::_,h=>cases h
theorem Sb {H:List Nat}(d:Nat){b:aO}(h:okB H (nJ d b)=true):nJ d b=b:=by
 obtain⟨k,sz,rows⟩:=b
 cases k
 case arr=>rfl
 all_goals
  match rows,h with
  | [],h=>cases h
  | [r],h=>
   have h:uo H (fp d r)=true:=h
   show(⟨_,sz,[fp d r]⟩:aO)=_
   rw[ur (H:=H) d h]
  | _::_::_,h=>cases h
def bX :List Nat->List Nat->Bool
  | [],_=>true
  | x::l,b=>match qp x b with
    | true=>false
    | false=>bX l b
def Kk :List Nat->Bool
 | []=>true
 | _=>false
theorem kM :∀{a b:List Nat},bX a b=true->∀ x∈a,x ∉ b
 | [],_,_,x,hx=>by cases hx
 | y::a,b,h,x,hx=>by
  simp only[bX] at h
  split at h
  ·cases h
  rename_i hm
  rcases aa9.1 hx with rfl | hx
  ·intro hb;rw[vu.2 hb] at hm;cases hm
  exact kM h x hx
theorem qa {l:List Nat}(h:Kk l=true):l=[]:=by
 cases l with
 | nil=>rfl
 | cons=>cases h
theorem yo {H:List Nat}:∀(D:List Nat) {v:PV},(∀ x∈D,x ∉ H)->nK H v=true->jj D v=v
 | [],_,_,_=>rfl
 | d::D,v,hD,h=>by rw[jj,Mz (hD d (aa2 ..)) h,yo D (λx hx=>hD x (aaX _ hx)) h]
theorem Dr {H:List Nat}:∀(D:List Nat) {v:PV},nK H (jj D v)=true->jj D v=v
 | [],_,_=>rfl
 | d::D,v,h=>by
  rw[jj] at h
  have h1:=Dr D h
  rw[h1] at h
  rw[jj,h1,MA d h]
theorem vv {H:List Nat}:∀(D:List Nat) {b:aO},(∀ x∈D,x ∉ H)->okB H b=true->kS D b=b
 | [],_,_,_=>rfl
 | d::D,b,hD,h=>by rw[kS,Sa (hD d (aa2 ..)) h,vv D (λx hx=>hD x (aaX _ hx)) h]
theorem An {H:List Nat}:∀(D:List Nat) {b:aO},okB H (kS D b)=true->kS D b=b
 | [],_,_=>rfl
 | d::D,b,h=>by
  rw[kS] at h
  have h1:=An D h
  rw[h1] at h
  rw[kS,h1,Sb d h]
theorem Er (d:Nat):∀(l:List PV) (t:Nat),bM (fp d l) t=kill d (bM l t)
 | [],_=>by simp[fp,bM,kill]
 | c::l,0=>by simp[fp,bM]
 | c::l,t+1=>by simp only[fp,bM];exact Er d l t
theorem ny :∀(D:List Nat) (l:List PV) (t:Nat),bM (fy D l) t=jj D (bM l t)
 | [],_,_=>rfl
 | d::D,l,t=>by rw[fy,ny D,Er];rfl
theorem yp :∀(D:List Nat) (l:List PV),(fy D l).length=l.length
 | [],_=>rfl
 | d::D,l=>by rw[fy,yp D,oc]
theorem Es (e:Nat):∀(l:List PV) (d:Nat) (v:PV),fp e (bT l d v)=bT (fp e l) d (kill e v)
 | [],_,_=>rfl
 | c::l,0,v=>rfl
 | c::l,d+1,v=>by simp only[bT,fp,Es e l d v]
theorem CH :∀(D:List Nat) (l:List PV) (d:Nat) (v:PV),fy D (bT l d v)=bT (fy D l) d (jj D v)
 | [],_,_,_=>rfl
 | e::D,l,d,v=>by rw[fy,Es,CH D];rfl
theorem Mg (D:List Nat)(l:List PV)(d:Option Tmp)(v:PV):fy D (jP l d v)=jP (fy D l) d (jj D v):=by
 cases d with
 | none=>rfl
 | some d=>exact CH D l d v
theorem PO (l:List PV)(d:Option Tmp)(v:PV)(t:Nat):bM (jP l d v) t=if d=some t/\t < l.length then v else bM l t:=by
 cases d with
 | none=>simp[jP]
 | some d=>simp[jP,Ao]
theorem Sc (l:List PV)(d:Option Tmp)(v:PV):(jP l d v).length=l.length:=by
 cases d with
 | none=>rfl
 | some d=>exact kK _ _ _
theorem PQ (l:List PV){d d':Option Tmp}(v v':PV)(h:∀ t,d=some t->d'≠some t):jP (jP l d v) d' v'=jP (jP l d' v') d v:=by
 cases d with
 | none=>rfl
 | some d=>
  cases d' with
  | none=>rfl
  | some d'=>
   have:=HD ({sl:=l,bl:=[]}:St) v v' h
   simp only[St.put,St.mk.injEq] at this
   exact this.1
structure Tag where
 D:List Nat
 W:List Nat
 Ks:List Nat
 H:List Nat
 pl:Bool
def pg (s t:Tag):Bool:=
 bX s.Ks t.W && bX t.Ks s.W && bX s.W t.W && (Kk s.D || (Kk t.D && t.pl && bX s.D t.H)) && (Kk t.D || (Kk s.D && s.pl && bX t.D s.H))
def Ds :List Tag->Nat->Option Tag
 | [],_=>none
 | t::_,0=>some t
 | _::l,n+1=>Ds l n
def BV (R:Array Oper)(ts:List Tag)(i:Nat)(y:Oper)(t:Tag):Nat->Bool
  | 0=>true
  | j+1=>match R[j]?,Ds ts j with
    | some x,some s=>match pg s t && x.apart R y with
      | true=>BV R ts i y t j
      | false=>match ahead R R.size i j with
        | true=>BV R ts i y t j
        | false=>false
    | _,_=>false
def uu (R:Array Oper)(ts:List Tag):Nat->Bool
  | 0=>true
  | i+1=>match R[i]?,Ds ts i with
    | some y,some t=>match BV R ts i y t i with
      | true=>uu R ts i
      | false=>false
    | _,_=>false
theorem Gg :∀(l:List Tag) (i:Nat),Ds l i=l[i]?
 | [],_=>by simp[Ds]
 | t::l,0=>by simp[Ds]
 | t::l,i+1=>by simp[Ds,Gg l i]
theorem Et {ts:List Tag}{i:Nat}{y:Oper}{t:Tag}:∀(n:Nat),BV R ts i y t n=true->∀ j x s,j < n->R[j]? =some x->ts[j]? =some s->ahead R R.size i j=true\/(pg s t=true/\x.apart R y=true)
 | 0,_,j,_,_,h,_,_=>by omega
 | n+1,h,j,x,s,hj,hx,hs=>by
  simp only[BV] at h
  split at h
  ·rename_i x' s' aX Mu
   have rest:BV R ts i y t n=true->j < n->ahead R R.size i j=true\/(pg s t=true/\x.apart R y=true):=λh hj=>Et n h j x s hj hx hs
   rcases Nat.lt_or_ge j n with hlt | vw
   ·split at h
    ·exact rest h hlt
    split at h
    ·exact rest h hlt
    cases h
   have:j=n:=by omega
   subst this
   rw[hx] at aX;cases aX
   rw[Gg,hs] at Mu;cases Mu
   split at h
   ·rename_i hc
    exact .inr (by simpa using hc)
   split at h
   ·rename_i hc;exact .inl hc
   cases h
  cases h
theorem wF {ts:List Tag}:∀(n:Nat),uu R ts n=true->∀ i j y x t s,i < n->j < i->R[i]? =some y->R[j]? =some x->ts[i]? =some t->ts[j]? =some s->ahead R R.size i j=true\/(pg s t=true/\x.apart R y=true)
 | 0,_,i,_,_,_,_,_,h,_,_,_,_,_=>by omega
 | n+1,h,i,j,y,x,t,s,hi,hj,hy,hx,ht,hs=>by
  simp only[uu] at h
  split at h
  ·rename_i y' t' PR lv
   split at h
   ·rename_i hr
    rcases Nat.lt_or_ge i n with hlt | vw
    ·exact wF n h i j y x t s hlt hj hy hx ht hs
    have:i=n:=by omega
    subst this
    rw[hy] at PR;cases PR
    rw[Gg,ht] at lv;cases lv
    exact Et i hr j x s hj hx hs
   cases h
  cases h
def Good (T:dA)(X:Spec)(o:Oper)(e:cQ)(t:Tag)(σ:St):Prop:=
 e.d=o.dst/\e.D=t.D/\(∀ k,k ∉ t.W->eG e.U k=none)/\
 (t.pl=true->(∀ x∈o.op.operands,nK t.H (σ.get x)=true)/\(∀ D,(∀ x∈D,x ∉ t.H)->jj D e.v=e.v)/\(∀ k b,eG e.U k=some (some b)->okB t.H b=true)/\∀ k∈t.Ks,∀ b,av σ.bl k=some b->okB t.H b=true)/\
 ∀ τ:St,(∀ x∈o.op.operands,τ.get x=σ.get x)->(∀ k∈t.Ks,av τ.bl k=av σ.bl k)->rh T X o (λaA=>aA.abs=e.app τ.abs) τ
def eW :(Nat->Bool)->List cQ->AS->AS
 | _,[],s=>s
 | S,e::l,s=>eW (λj=>S (j+1)) l (bif S 0 then e.app s else s)
theorem map_nil (x:Option aO):x.map (kS [])=x:=by cases x<;>rfl
theorem PS {k:Nat}:∀(l:List cQ) (S S':Nat->Bool) (s s':AS),(∀ j e,l[j]? =some e->S j≠S' j->eG e.U k=none/\e.D=[])->s.m k=s'.m k->(eW S l s).m k=(eW S' l s').m k
 | [],_,_,_,_,_,h=>h
 | e::l,S,S',s,s',hd,h=>by
  rw[eW,eW]
  refine PS l _ _ _ _ (λj e' hj=>hd (j+1) e' (by simpa using hj)) ?_
  have h0:=hd 0 e (by simp)
  cases h1:S 0<;>cases h2:S' 0<;>simp only[cond_true,cond_false]
  ·exact h
  ·obtain⟨hu,hD⟩:=h0 (by rw[h1,h2];decide)
   simp only[cQ.app,cQ.m,hu,hD,map_nil];exact h
  ·obtain⟨hu,hD⟩:=h0 (by rw[h1,h2];decide)
   simp only[cQ.app,cQ.m,hu,hD,map_nil];exact h
  simp only[cQ.app,cQ.m,h]
theorem MB {k:Nat}{H:List Nat}:∀(l:List cQ) (S S':Nat->Bool) (s s':AS),(∀ j e,l[j]? =some e->S j≠S' j->eG e.U k=none/\∀ x∈e.D,x ∉ H)->((∀ b,s'.m k=some b->okB H b=true->s.m k=some b)/\(s'.m k=none->s.m k=none))->
  ((∀ b,(eW S' l s').m k=some b->okB H b=true->(eW S l s).m k=some b)/\((eW S' l s').m k=none->(eW S l s).m k=none))
 | [],_,_,_,_,_,h=>h
 | e::l,S,S',s,s',hd,h=>by
  rw[eW,eW]
  refine MB l _ _ _ _ (λj e' hj=>hd (j+1) e' (by simpa using hj)) ?_
  have h0:=hd 0 e (by simp)
  cases h1:S 0<;>cases h2:S' 0<;>simp only[cond_true,cond_false]
  ·exact h
  ·obtain⟨hu,hD⟩:=h0 (by rw[h1,h2];decide)
   simp only[cQ.app,cQ.m,hu]
   refine⟨λb hb hok=>?_,λhb=>h.2 (by simpa using hb)⟩
   obtain⟨b0,jm,rfl⟩:=Option.map_eq_some_iff.1 hb
   have e1:=An _ hok
   rw[e1] at hok ⊢
   exact h.1 b0 jm hok
  ·obtain⟨hu,hD⟩:=h0 (by rw[h1,h2];decide)
   simp only[cQ.app,cQ.m,hu]
   refine⟨λb hb hok=>?_,λhb=>by rw[h.2 hb];rfl⟩
   rw[h.1 b hb hok,ab2,vv _ hD hok]
  simp only[cQ.app,cQ.m]
  cases eG e.U k with
  | none=>
   refine⟨λb hb hok=>?_,λhb=>?_⟩
   ·obtain⟨b0,jm,rfl⟩:=Option.map_eq_some_iff.1 hb
    have e1:=An _ hok
    rw[e1] at hok
    rw[h.1 b0 jm hok];rfl
   have hb:s'.m k=none:=by simpa using hb
   show(s.m k).map _=none
   rw[h.2 hb];rfl
  | some x=>exact⟨λb hb _=>hb,λhb=>hb⟩
theorem MC (e:cQ)(s:AS):(e.app s).sl.length=s.sl.length:=by simp only[cQ.app,Sc,yp]
theorem qb (e:cQ)(s:AS)(t:Nat):bM (e.app s).sl t=if e.d=some t/\t < s.sl.length then e.v else jj e.D (bM s.sl t):=by
 simp only[cQ.app,PO,yp,ny]
theorem MD {t:Nat}:∀(l:List cQ) (S S':Nat->Bool) (s s':AS),(∀ j e,l[j]? =some e->S j≠S' j->e.d≠some t/\e.D=[])->s.sl.length=s'.sl.length->bM s.sl t=bM s'.sl t->bM (eW S l s).sl t=bM (eW S' l s').sl t
 | [],_,_,_,_,_,_,h=>h
 | e::l,S,S',s,s',hd,hl,h=>by
  rw[eW,eW]
  have h0:=hd 0 e (by simp)
  refine MD l _ _ _ _ (λj e' hj=>hd (j+1) e' (by simpa using hj)) ?_ ?_
  ·cases S 0<;>cases S' 0<;>simp only[cond_true,cond_false,MC,hl]
  cases h1:S 0<;>cases h2:S' 0<;>simp only[cond_true,cond_false]
  ·exact h
  ·obtain⟨hu,hD⟩:=h0 (by rw[h1,h2];decide)
   rw[qb,if_neg (λhh=>hu hh.1),hD];exact h
  ·obtain⟨hu,hD⟩:=h0 (by rw[h1,h2];decide)
   rw[qb,if_neg (λhh=>hu hh.1),hD];exact h
  rw[qb,qb,hl,h]
theorem Kl {t:Nat}{H:List Nat}:∀(l:List cQ) (S S':Nat->Bool) (s s':AS),(∀ j e,l[j]? =some e->S j≠S' j->e.d≠some t/\∀ x∈e.D,x ∉ H)->s.sl.length=s'.sl.length->(nK H (bM s'.sl t)=true->bM s.sl t=bM s'.sl t)->nK H (bM (eW S' l s').sl t)=true->bM (eW S l s).sl t=bM (eW S' l s').sl t
 | [],_,_,_,_,_,_,h,hp=>h hp
 | e::l,S,S',s,s',hd,hl,h,hp=>by
  rw[eW] at hp
  rw[eW,eW]
  have h0:=hd 0 e (by simp)
  refine Kl l _ _ _ _ (λj e' hj=>hd (j+1) e' (by simpa using hj)) ?_ ?_ hp
  ·cases S 0<;>cases S' 0<;>simp only[cond_true,cond_false,MC,hl]
  cases h1:S 0<;>cases h2:S' 0<;>simp only[cond_true,cond_false]
  ·exact h
  ·have hu:=(h0 (by rw[h1,h2];decide)).1
   rw[qb,if_neg (λhh=>hu hh.1)]
   intro hq
   have e1:=Dr _ hq
   rw[e1] at hq ⊢
   exact h hq
  ·obtain⟨hu,hD⟩:=h0 (by rw[h1,h2];decide)
   rw[qb,if_neg (λhh=>hu hh.1)]
   intro hq
   rw[h hq];exact yo _ hD hq
  rw[qb,qb,hl]
  split
  ·intro _;rfl
  intro hq
  have e1:=Dr _ hq
  rw[e1] at hq
  rw[h hq]
theorem yq :∀(l:List cQ) (S S':Nat->Bool) (s:AS),(∀ i,i < l.length->S i=S' i)->eW S l s=eW S' l s
 | [],_,_,_,_=>rfl
 | e::l,S,S',s,h=>by
  rw[eW,eW,h 0 (by simp)]
  exact yq l _ _ _ λi hi=>h (i+1) (by simpa using hi)
theorem Ap {e:cQ}:∀(l:List cQ) (S:Nat->Bool) (s:AS),(∀ j e',l[j]? =some e'->S j=true->∀ s,e'.app (e.app s)=e.app (e'.app s))->eW S l (e.app s)=e.app (eW S l s)
 | [],_,_,_=>rfl
 | e'::l,S,s,h=>by
  rw[eW,eW]
  have h0:=h 0 e' (by simp)
  cases h1:S 0<;>simp only[cond_true,cond_false]
  ·exact Ap l _ _ λj Ty hj=>h (j+1) Ty (by simpa using hj)
  rw[h0 h1];exact Ap l _ _ λj Ty hj=>h (j+1) Ty (by simpa using hj)
theorem Km {e:cQ}:∀(l:List cQ) (i:Nat) (S S':Nat->Bool) (s:AS),l[i]? =some e->S i=false->S' i=true->(∀ j,j≠i->S' j=S j)->
  (∀ j e',i < j->l[j]? =some e'->S j=true->∀ s,e'.app (e.app s)=e.app (e'.app s))->eW S' l s=e.app (eW S l s)
 | [],i,_,_,_,h,_,_,_,_=>by simp at h
 | f::l,0,S,S',s,h,h0,h1,hS,hj=>by
  simp at h
  subst h
  rw[eW,eW,h0,h1]
  simp only[cond_true,cond_false]
  rw[yq l (λj=>S' (j+1)) (λj=>S (j+1)) _ λi _=>hS (i+1) (by omega)]
  exact Ap l _ s λi e' hi hs=>hj (i+1) e' (by omega) (by simpa using hi) hs
 | f::l,i+1,S,S',s,h,h0,h1,hS,hj=>by
  rw[eW,eW,hS 0 (by omega)]
  exact Km l i _ _ _ (by simpa using h) h0 h1 (λj hj'=>hS (j+1) (by omega)) λj e' hij hl hs=>hj (j+1) e' (by omega) (by simpa using hl) hs
theorem HE {e e':cQ}(hD:e.D=[])(hd:∀ t,e.d=some t->e'.d≠some t)(hW:∀ k,eG e.U k=none\/eG e'.U k=none)(hv:jj e'.D e.v=e.v)(hb:∀ k b,eG e.U k=some (some b)->kS e'.D b=b)(s:AS):e'.app (e.app s)=e.app (e'.app s):=by
 have h1:jP (fy e'.D (jP (fy e.D s.sl) e.d e.v)) e'.d e'.v=jP (fy e.D (jP (fy e'.D s.sl) e'.d e'.v)) e.d e.v:=by
  rw[hD]
  show jP (fy e'.D (jP s.sl e.d e.v)) e'.d e'.v=jP (jP (fy e'.D s.sl) e'.d e'.v) e.d e.v
  rw[Mg,hv]
  exact PQ _ _ _ hd
 have h2:e'.m (e.m s.m)=e.m (e'.m s.m):=by
  funext k
  simp only[cQ.m,hD,map_nil]
  rcases hW k with hk | hk
  ·rw [hk]
  rw[hk]
  cases hu:eG e.U k with
  | none=>rfl
  | some x=>
   cases x with
   | none=>rfl
   | some b=>simp only[ab2,hb k b hu]
 have h3:oJ e'.D (oJ e.D s.hd)=oJ e.D (oJ e'.D s.hd):=by rw[hD];rfl
 simp only[cQ.app,h1,h2,h3]
theorem HF {o o':Oper}{e e':cQ}{t t':Tag}{σ aA:St}(hg:Good T X o e t σ)(Aq:Good T X o' e' t' aA)(hc:pg t t'=true)(hd:∀ u,o.dst=some u->o'.dst≠some u)(s:AS):e'.app (e.app s)=e.app (e'.app s):=by
 obtain⟨g1,g2,g3,g4,_⟩:=hg
 obtain⟨ZU,PT,g3',ZV,_⟩:=Aq
 simp only[pg,aaR,abU] at hc
 obtain⟨⟨⟨⟨_,_⟩,hW⟩,hA⟩,hB⟩:=hc
 have ZW:∀ k,eG e.U k=none\/eG e'.U k=none:=λk=>by
  by_cases hk:k∈t.W
  ·exact .inr (g3' k (kM hW k hk))
  exact .inl (g3 k hk)
 rcases hA with hA | ⟨⟨hA1,ZX⟩,ZY⟩
 ·have hD:e.D=[]:=by rw[g2];exact qa hA
  refine HE hD (by rw[g1,ZU];exact hd) ZW ?_ ?_ s
  ·rcases hB with hB | ⟨⟨_,En⟩,PU⟩
   ·rw [PT,qa hB];rfl
   rw[PT];exact(g4 En).2.1 _ (kM PU)
  intro k b hk
  rcases hB with hB | ⟨⟨_,En⟩,PU⟩
  ·rw [PT,qa hB];rfl
  rw[PT];exact vv _ (kM PU) ((g4 En).2.2.1 k b hk)
 have hD:e'.D=[]:=by rw[PT];exact qa hA1
 refine(HE hD (by rw[g1,ZU];exact λu h1 h2=>hd u h2 h1) (λk=>(ZW k).symm) ?_ ?_ s).symm
 ·rw [g2];exact(ZV ZX).2.1 _ (kM ZY)
 intro k b hk;rw[g2];exact vv _ (kM ZY) ((ZV ZX).2.2.1 k b hk)
theorem mQ (L:List Bool)(i:Nat):ia L.toArray i=fG L i:=by
 unfold ia
 rw[Array.getD_eq_getD_getElem?,List.getElem?_toArray]
 induction L generalizing i with
 | nil=>simp[fG]
 | cons b l ih=>
  cases i with
  | zero=>simp[fG]
  | succ i=>simpa [fG] using ih i
theorem Ar {L:List Bool}{F:Nat->Oper->Prop}(h:∀ i o,tt R L i=some o->F i o):∀ is,iq R L F is
 | []=>trivial
 | i::is=>by
  simp only[iq]
  split
  ·rename_i o ho;exact⟨h i o ho,Ar h is⟩
  exact Ar h is
def nB (R:Array Oper)(σ:St)(o:Oper):Bool:=match o.guard with
  | none=>true
  | some (j,want)=>match ji R.toList j with
    | some t=>match bM σ.sl t with
      | .bool b=>b == want
      | _=>false
    | none=>false
theorem Sd (h:o.guard=none):nB R σ o=true:=by unfold nB;rw[h]
theorem HG {K:St->Prop}{kJ ui:St}{es:List cQ}{ts:List Tag}(hes:es.length=R.size)(hts:ts.length=R.size)(hok:uu R ts R.size=true)(hK:K ui)(hF:ui.abs=eW (λ_=>true) es kJ.abs)
  (hg:∀ i o,R[i]? =some o->∃ e t sR,es[i]? =some e/\ts[i]? =some t/\St.abs sR=eW (λj=>decide (j < i)) es kJ.abs/\nB R sR o=true/\Good T X o e t sR):
  ∀(n:Nat) (L:List Bool) (σ:St),L.length=R.size->lx L=n->Kn R L.toArray->σ.abs=eW (fG L) es kJ.abs->mY T X R K n L σ
 | 0,L,σ,hL,hn,hc,As=>by
  have hall:=mB L hn
  have e1:σ.abs=ui.abs:=by rw[As,hF];exact yq _ _ _ _ λi hi=>hall i (by omega)
  simp only[St.abs,AS.mk.injEq] at e1
  obtain⟨e1,e2,e3⟩:=e1
  refine⟨[.perm ui.bl],ui,?_,hK⟩
  simp only[eS,iH]
  rw[if_pos (λk=>by rw[e2])]
  simp only[aaQ.injEq]
  obtain⟨s1,b1,h1⟩:=σ
  obtain⟨s2,b2,h2⟩:=ui
  simp only at e1 e3
  subst e1;subst e3;rfl
 | n+1,L,σ,hL,hn,hc,As=>by
  refine⟨[],σ,rfl,Ar (λi o hr=>?_) _⟩
  unfold tt at hr
  split at hr
  case h_2=>cases hr
  rename_i o' ho
  split at hr
  case h_2=>cases hr
  rename_i hcond
  cases hr
  simp only[aaR,Bool.not_eq_true',List.all_eq_true,abU] at hcond
  obtain⟨hni,hedge⟩:=hcond
  have hlt:i < R.size:=(Array.getElem?_eq_some_iff.1 ho).1
  obtain⟨e,t,sR,he,ht,VD,hgd,hG⟩:=hg i o ho
  have hpre:∀ ed∈o.after,iD ed=true->ia L.toArray ed.on=true:=by
   intro ed hed hb
   rw[mQ]
   rcases hedge ed (by simpa using hed) with h | h
   ·rw [hb] at h;cases h
   exact h
  -- how one that is done out of the text's order stands to this one
  have hpair:∀ j e',es[j]? =some e'->fG L j≠decide (j < i)->∃ x t' PW,R[j]? =some x/\ts[j]? =some t'/\Good T X x e' t' PW/\(pg t' t=true/\x.apart R o=true\/pg t t'=true/\o.apart R x=true):=by
   intro j e' hj hne
   have hjl:j < R.size:=by rw[<- hes];exact(List.getElem?_eq_some_iff.1 hj).1
   have hx:R[j]? =some R[j]:=by simp[hjl]
   obtain⟨Ty,t',PW,lu,lv,_,_,CB⟩:=hg j _ hx
   rw[hj] at lu;cases lu
   refine⟨_,t',PW,hx,lv,CB,?_⟩
   rcases Nat.lt_trichotomy j i with mn | mn | mn
   ·rcases wF _ hok i j o _ t t' hlt mn ho hx ht lv with ha | ha
    ·have:=mo hc _ i j ha (.inr ⟨o,ho,hpre⟩)
     rw[mQ] at this
     exact absurd (by rw[this];simp[mn]) hne
    exact .inl ha
   ·subst mn;exact absurd (by rw[hni];simp) hne
   have hlj:fG L j=true:=by
    cases hq:fG L j with
    | true=>rfl
    | false=>exact absurd (by rw[hq];symm;simp;omega) hne
   rcases wF _ hok j i _ o t' t hjl mn hx ho lv ht with ha | ha
   ·have:=mo hc _ j i ha (.inl (by rw[mQ];exact hlj))
    rw[mQ,hni] at this;cases this
   exact .inr ha
  have hD:∀ j e',es[j]? =some e'->fG L j≠decide (j < i)->((t.pl=true/\∀ x∈e'.D,x ∉ t.H)\/e'.D=[])/\(∀ k∈t.Ks,eG e'.U k=none)/\∀ u∈o.looksAt R,e'.d≠some u:=by
   intro j e' hj hne
   obtain⟨x,t',PW,hx,lv,CB,hh⟩:=hpair j e' hj hne
   obtain⟨g1,g2,g3,_⟩:=CB
   rcases hh with ⟨jI,ha⟩ | ⟨jI,ha⟩
   ·simp only[pg,aaR,abU] at jI
    obtain⟨⟨⟨⟨_,hk⟩,_⟩,hA⟩,_⟩:=jI
    refine⟨?_,λk jl=>g3 k (kM hk k jl),λu hu hq=>(Oper.apart_spec ha).1 u (by rw[<- g1];exact hq) hu⟩
    rcases hA with hA | ⟨⟨_,hA⟩,hq⟩
    ·exact .inr (by rw[g2];exact qa hA)
    exact .inl ⟨hA,by rw[g2];exact kM hq⟩
   simp only[pg,aaR,abU] at jI
   obtain⟨⟨⟨⟨hk,_⟩,_⟩,_⟩,hB⟩:=jI
   refine⟨?_,λk jl=>g3 k (kM hk k jl),λu hu hq=>(Oper.apart_spec ha).2.2 u (by rw[<- g1];exact hq) hu⟩
   rcases hB with hB | ⟨⟨_,hB⟩,hq⟩
   ·exact .inr (by rw[g2];exact qa hB)
   exact .inl ⟨hB,by rw[g2];exact kM hq⟩
  have ZZ:∀ j e',es[j]? =some e'->fG L j≠decide (j < i)->∀ x∈e'.D,x ∉ t.H:=by
   intro j e' hj hne
   rcases(hD j e' hj hne).1 with h | h
   ·exact h.2
   rw[h];intro x hx;cases hx
  have hsl:∀ u∈o.looksAt R,(t.pl=true->nK t.H (bM sR.sl u)=true)->bM σ.sl u=bM sR.sl u:=by
   intro u hu hp
   have a1:σ.sl=(eW (fG L) es kJ.abs).sl:=by rw[<- As];rfl
   have a2:sR.sl=(eW (λj=>decide (j < i)) es kJ.abs).sl:=by rw[<- VD];rfl
   rw[a2] at hp
   rw[a1,a2]
   cases hpl:t.pl with
   | true=>exact Kl es _ _ _ _ (λj e' hj hne=>⟨(hD j e' hj hne).2.2 u hu,ZZ j e' hj hne⟩) rfl (λ_=>rfl) (hp hpl)
   | false=>exact MD es _ _ _ _ (λj e' hj hne=>⟨(hD j e' hj hne).2.2 u hu,(hD j e' hj hne).1.resolve_left (by rw[hpl];exact λh=>by cases h.1)⟩) rfl rfl
  obtain⟨g1,g2,g3,g4,g5⟩:=hG
  have hop:∀ x∈o.op.operands,σ.get x=sR.get x:=by
   intro x hx
   cases x with
   | tmp u=>exact hsl u (abp _ (List.mem_filterMap.2 ⟨.tmp u,by simpa using hx,rfl⟩)) λhpl=>(g4 hpl).1 (.tmp u) hx
   | const v=>rfl
   | global g=>rfl
   | func f=>rfl
  have hks:∀ k∈t.Ks,av σ.bl k=av sR.bl k:=by
   intro k hk
   have a1:av σ.bl=(eW (fG L) es kJ.abs).m:=by rw[<- As];rfl
   have a2:av sR.bl=(eW (λj=>decide (j < i)) es kJ.abs).m:=by rw[<- VD];rfl
   cases hpl:t.pl with
   | true=>
    have h0:=(g4 hpl).2.2.2 k hk
    have h1:=MB (k:=k) (H:=t.H) es (fG L) (λj=>decide (j < i)) kJ.abs kJ.abs (λj e' hj hne=>⟨(hD j e' hj hne).2.1 k hk,ZZ j e' hj hne⟩) ⟨λb hb _=>hb,λhb=>hb⟩
    rw[a2] at h0 ⊢
    rw[a1]
    cases hb:(eW (λj=>decide (j < i)) es kJ.abs).m k with
    | none=>exact h1.2 hb
    | some b=>exact h1.1 b hb (h0 b hb)
   | false=>
    rw[a1,a2]
    exact PS es _ _ _ _ (λj e' hj hne=>⟨(hD j e' hj hne).2.1 k hk,(hD j e' hj hne).1.resolve_left (by rw[hpl];exact λh=>by cases h.1)⟩) rfl
  show bN T X R.toList [o] (mY T X R K n (lK L i)) σ
  have hrun:rh T X o (bN T X R.toList [] (mY T X R K n (lK L i))) σ:=by
   refine rA (λaA aaf=>?_) (g5 σ hop hks)
   have Tz:i < L.length:=by omega
   refine HG hes hts hok hK hF hg n (lK L i) aA (by rw[Dt];exact hL) ?_ ?_ ?_
   ·have:=vp L i Tz hni;omega
   ·intro j x hx hj ed hed hb
    rw[mQ,se L i _ Tz] at *
    by_cases hei:ed.on=i
    ·rw [if_pos hei]
    rw[if_neg hei]
    by_cases mn:j=i
    ·subst mn;rw[ho] at hx;cases hx
     have:=hpre ed hed hb
     rw[mQ] at this;exact this
    rw[if_neg mn] at hj
    have:=hc j x hx (by rw[mQ];exact hj) ed hed hb
    rw[mQ] at this;exact this
   rw[aaf,As]
   refine(Km es i (fG L) (fG (lK L i)) _ he hni (by rw[se L i i Tz,if_pos rfl]) (λj hj=>by rw[se L i j Tz,if_neg hj]) ?_).symm
   intro j e' hij hj hlj s
   obtain⟨x,t',PW,hx,lv,CB,hh⟩:=hpair j e' hj (by rw[hlj];symm;simp;omega)
   rcases hh with ⟨jI,ha⟩ | ⟨jI,ha⟩
   ·exact(HF CB ⟨g1,g2,g3,g4,g5⟩ jI (Oper.apart_spec ha).2.1 s).symm
   exact HF ⟨g1,g2,g3,g4,g5⟩ CB jI (Oper.apart_spec ha).2.1 s
  unfold nB at hgd
  cases hgq:o.guard with
  | none=>simp only[bN,hgq];exact hrun
  | some p=>
   obtain⟨j,want⟩:=p
   rw[hgq] at hgd
   simp only at hgd
   cases hdq:ji R.toList j with
   | none=>rw[hdq] at hgd;simp at hgd
   | some u=>
    rw[hdq] at hgd
    simp only at hgd
    have hu:u∈o.looksAt R:=by
     unfold Oper.looksAt
     rw[hgq]
     refine abe _ ?_
     have h1:=qB _ _ _ hdq
     rw[Array.getElem?_toList] at h1
     simp only
     rw[h1]
     simp
    split at hgd
    ·rename_i b hb
     have hbw:b=want:=by simpa using hgd
     subst hbw
     have hv:bM σ.sl u=.bool b:=(hsl u hu λ_=>by rw[hb];rfl).trans hb
     simp only[bN,hgq,hdq,hv]
     exact⟨λ_=>hrun,λh1=>by cases b<;>cases h1⟩
    cases hgd
def ir (T:dA)(X:Spec)(R:Array Oper):List Oper->List Tag->(St->Prop)->St->Prop
 | [],ts,K,σ=>uu R ts.reverse R.size=true/\K σ
 | o::l,ts,K,σ=>nB R σ o=true/\∃ e t aR,Good T X o e t σ/\St.abs aR=e.app σ.abs/\ir T X R l (t::ts) K aR
theorem HH {K:St->Prop}:∀(l:List Oper) (ts:List Tag) (σ:St),ir T X R l ts K σ->
  ∃ es sQ ui,es.length=l.length/\sQ.length=l.length/\uu R (ts.reverse++sQ) R.size=true/\K ui/\ui.abs=eW (λ_=>true) es σ.abs/\
   ∀ i o,l[i]? =some o->∃ e t sR,es[i]? =some e/\sQ[i]? =some t/\St.abs sR=eW (λj=>decide (j < i)) es σ.abs/\nB R sR o=true/\Good T X o e t sR
 | [],ts,σ,h=>⟨[],[],σ,rfl,rfl,by rw[abm];exact h.1,h.2,rfl,λi o hi=>by simp at hi⟩
 | o::l,ts,σ,h=>by
  obtain⟨hgd,e,t,aR,hG,h1,h2⟩:=h
  obtain⟨es,sQ,ui,a1,a2,a3,a4,a5,a6⟩:=HH l (t::ts) aR h2
  refine⟨e::es,t::sQ,ui,by simp[a1],by simp[a2],by simpa using a3,a4,by rw[a5,h1];rfl,λi o' hi=>?_⟩
  have h0:∀(l:List cQ) (s:AS),eW (λ_=>false) l s=s:=by
   intro l
   induction l with
   | nil=>intro s;rfl
   | cons f l ih=>intro s;exact ih s
  cases i with
  | zero=>
   simp at hi
   subst hi
   refine⟨e,t,σ,rfl,rfl,?_,hgd,hG⟩
   have:(λj:Nat=>decide (j < 0))=λ_=>false:=by funext j;simp
   rw[this,h0]
  | succ i=>
   obtain⟨e',t',sR,b2,b3,b4,b1,b5⟩:=a6 i o' (by simpa using hi)
   refine⟨e',t',sR,by simpa using b2,by simpa using b3,?_,b1,b5⟩
   rw[b4,h1,eW]
   simp
theorem cR {Q:AE->St->Prop}{id:Nat}{ops:Array Oper}(rk:List Nat)(he:oH rk ops=true)(h:ir T X ops ops.toList [] (Q .normal) σ):fO T X (.region id ops true) Q σ:=by
 obtain⟨es,ts,ui,a1,a2,a3,a4,a5,a6⟩:=HH _ _ _ h
 refine⟨[],σ,rfl,.inr ⟨⟨rk,he⟩,?_⟩⟩
 refine HG (es:=es) (ts:=ts) (kJ:=σ) (by simpa using a1) (by simpa using a2) (by simpa using a3) a4 a5 (λi o hi=>a6 i o (by simpa using hi)) ops.size (me ops.size) σ (yr _) (yt _) ?_ ?_
 ·intro i o hi hl
  rw[mQ,tv] at hl;cases hl
 have h0:∀(l:List cQ) (s:AS),eW (fG (me ops.size)) l s=s:=by
  have:fG (me ops.size)=λ_=>false:=by funext j;exact tv _ _
  rw[this]
  intro l
  induction l with
  | nil=>intro s;rfl
  | cons f l ih=>intro s;exact ih s
 rw[h0]
end
section
variable {P : Program} {A : ax} {T : dA} {X : Spec} {σ aA aR τ : St} {o : Oper} {R : Array Oper} {l l' : List Oper} {ts sQ : List Tag} {K : St -> Prop}
theorem xj (σ:St)(d:Option Tmp)(v:PV):(σ.put d v).abs=(⟨[],d,v,[]⟩:cQ).app σ.abs:=by
 have h:(⟨[],d,v,[]⟩:cQ).m σ.abs.m=av σ.bl:=by funext k;simp only[cQ.m,eG,map_nil,St.abs]
 simp only[cQ.app,h]
 cases d<;>rfl
theorem ME (σ:St)(d:Nat)(v:PV)(b:aO):St.abs {σ with sl:=bT σ.sl d v,bl:=(d,b)::σ.bl}=(⟨[],some d,v,[(d,some b)]⟩:cQ).app σ.abs:=by
 have h:(⟨[],some d,v,[(d,some b)]⟩:cQ).m σ.abs.m=av ((d,b)::σ.bl):=by
  funext k;simp only[cQ.m,eG,map_nil,St.abs,av];cases nq d k<;>rfl
 simp only[cQ.app,h];rfl
theorem BW (σ:St)(d:Nat)(b:aO):St.abs {σ with bl:=cg σ.bl d b}=(⟨[],none,.aa,[(d,some b)]⟩:cQ).app σ.abs:=by
 have h:(⟨[],none,.aa,[(d,some b)]⟩:cQ).m σ.abs.m=av (cg σ.bl d b):=by
  funext k
  rw[ct]
  simp only[cQ.m,eG,map_nil,St.abs]
  by_cases hk:d=k
  ·subst hk;rw[beq_true];simp
  rw[beq_false hk,if_neg hk];simp
 simp only[cQ.app,h];rfl
theorem Ko (σ:St)(d:Nat):(σ.drop d).abs=(⟨[d],none,.aa,[(d,none)]⟩:cQ).app σ.abs:=by
 have h:(⟨[d],none,.aa,[(d,none)]⟩:cQ).m σ.abs.m=av (fX d (iC σ.bl d)):=by
  funext k
  rw[gw,gb]
  simp only[cQ.m,eG,St.abs]
  by_cases hk:d=k
  ·subst hk;rw[beq_true,if_pos rfl];rfl
  rw[beq_false hk,if_neg hk];rfl
 simp only[cQ.app,h];rfl
def Oc (σ:St):List Operand->List Nat
 | []=>[]
 | x::l=>uv (σ.get x)++Oc σ l
mutual
def VE :PV->List Nat
 | .own d=>[d]
 | .pt d _ _=>[d]
 | .agg cs=>PX cs
 | .aw vs=>PX vs
 | .fn _ caps=>PX caps
 | _=>[]
def PX :List PV->List Nat
 | []=>[]
 | c::l=>VE c++PX l
end
def Z0 :aO->List Nat
 | ⟨.arr,_,_⟩=>[]
 | ⟨_,_,[r]⟩=>PX r
 | _=>[]
def PY (bl:List (Nat × aO)):List Nat->List Nat
 | []=>[]
 | k::l=>(match av bl k with | some b=>Z0 b | none=>[])++PY bl l
def HI (σ:St):List Operand->List Nat
 | []=>[]
 | x::l=>VE (σ.get x)++HI σ l
def TA (σ:St):Option Tmp->List Nat
 | some d=>VE (bM σ.sl d)
 | none=>[]
def Gh (H:List Nat)(bl:List (Nat × aO)):List Nat->Bool
 | []=>true
 | k::l=>(match av bl k with | some b=>okB H b | none=>true) && Gh H bl l
theorem Du {H:List Nat}{bl:List (Nat × aO)}{k:Nat}{b:aO}(hb:av bl k=some b):∀{l:List Nat},Gh H bl l=true->k∈l->okB H b=true
 | e::l,h,hm=>by
  simp only[Gh,aaR] at h
  rcases aa9.1 hm with rfl | hm
  ·have h1:=h.1;rw[hb] at h1;exact h1
  exact Du hb h.2 hm
def Kp (H:List Nat)(σ:St):List Operand->Bool
 | []=>true
 | x::l=>nK H (σ.get x) && Kp H σ l
theorem HJ {x:Operand}:∀{l:List Operand},x∈l->∀ k∈uv (σ.get x),k∈Oc σ l
 | y::l,h,k,hk=>by
  rcases aa9.1 h with rfl | h
  ·exact abp _ hk
  exact abe _ (HJ h k hk)
theorem BX {H:List Nat}{x:Operand}:∀{l:List Operand},Kp H σ l=true->x∈l->nK H (σ.get x)=true
 | y::l,hp,h=>by
  simp only[Kp,aaR] at hp
  rcases aa9.1 h with rfl | h
  ·exact hp.1
  exact BX hp.2 h
def JM (H:List Nat)(aR:St):Option Tmp->Bool
 | some d=>nK H (bM aR.sl d)
 | none=>true
def sF (σ:St)(o:Oper)(aR:St)(Ks:List Nat):Tag:=
 ⟨[],[],Ks,HI σ o.op.operands.toList++(TA aR o.dst++PY σ.bl Ks),Kp (HI σ o.op.operands.toList++(TA aR o.dst++PY σ.bl Ks)) σ o.op.operands.toList && (JM (HI σ o.op.operands.toList++(TA aR o.dst++PY σ.bl Ks)) aR o.dst && Gh (HI σ o.op.operands.toList++(TA aR o.dst++PY σ.bl Ks)) σ.bl Ks)⟩
def VF (σ:St)(o:Oper)(aR:St):Tag:=sF σ o aR (Oc σ o.op.operands.toList)
theorem Dv {v:PV}{t:Tag}(hD:t.D=[])(hW:t.W=[])(hpl:t.pl=true->Kp t.H σ o.op.operands.toList=true/\JM t.H (σ.put o.dst v) o.dst=true/\Gh t.H σ.bl t.Ks=true)
    (h:∀ τ:St,(∀ x∈o.op.operands,τ.get x=σ.get x)->(∀ k∈t.Ks,av τ.bl k=av σ.bl k)->rh T X o (λaA=>aA=τ.put o.dst v) τ):∃ e,Good T X o e t σ/\(σ.put o.dst v).abs=e.app σ.abs:=by
  by_cases hd:o.dst=none
  · refine⟨⟨[],o.dst,.zc,[]⟩,⟨rfl,hD.symm,λ_ _=>rfl,λhp=>?_,λτ h1 h2=>rA (λaA As=>?_) (h τ h1 h2)⟩,?_⟩
    · obtain⟨a1,a2,a3⟩:=hpl hp
      exact⟨λx hx=>BX a1 (by simpa using hx),λD hD=>yo D hD rfl,λk b hk=>(by cases hk),λk hk b hb=>Du hb a3 hk⟩
    · rw[As,hd]
      exact xj τ none .zc
    · rw[hd];exact xj σ none .zc
  · refine⟨⟨[],o.dst,v,[]⟩,⟨rfl,hD.symm,λ_ _=>rfl,λhp=>?_,λτ h1 h2=>rA (λaA As=>?_) (h τ h1 h2)⟩,xj _ _ _⟩
    · obtain⟨a1,a2,a3⟩:=hpl hp
      refine⟨λx hx=>BX a1 (by simpa using hx),λD hD=>yo D hD ?_,λk b hk=>(by cases hk),λk hk b hb=>Du hb a3 hk⟩
      cases hdd:o.dst with
      | none=>exact absurd hdd hd
      | some d=>
        rw[hdd] at a2
        simp only[JM] at a2
        rw[Dw] at a2
        split at a2
        · exact a2
        · rename_i jL
          -- out of the slots: nothing is read there
          have:bM σ.sl d=.aa:=by
            have vw:σ.sl.length<=d:=by
              rcases Nat.lt_or_ge d σ.sl.length with h1 | h1
              · exact absurd ⟨rfl,h1⟩ jL
              · exact h1
            clear a2 jL h hpl
            revert vw
            generalize σ.sl=l
            intro vw
            induction l generalizing d with
            | nil=>rfl
            | cons c l ih=>
              cases d with
              | zero=>simp at vw
              | succ d=>
                simp only[bM]
                have hq:l.length<=d:=by simpa using vw
                clear ih vw hdd
                induction l generalizing d with
                | nil=>rfl
                | cons c l ih=>
                  cases d with
                  | zero=>simp at hq
                  | succ d=>exact ih d (by simpa using hq)
          rw[this] at a2;simp[nK] at a2
    · rw[As];exact xj _ _ _
theorem Gi {v:PV}{Ks:List Nat}(h:(sF σ o (σ.put o.dst v) Ks).pl=true):Kp (sF σ o (σ.put o.dst v) Ks).H σ o.op.operands.toList=true/\JM (sF σ o (σ.put o.dst v) Ks).H (σ.put o.dst v) o.dst=true/\Gh (sF σ o (σ.put o.dst v) Ks).H σ.bl (sF σ o (σ.put o.dst v) Ks).Ks=true:=by
 simp only[sF,aaR] at h ⊢
 exact h
theorem PZ (hp:kp o=true)(hs:step T σ o=some aR):∃ e,Good T X o e (VF σ o aR) σ/\aR.abs=e.app σ.abs:=by
 obtain⟨v,rfl,h2⟩:=HK hp hs
 refine Dv rfl rfl Gi λτ h3 h4=>?_
 exact lM (CI hp) (h2 τ (λx hx k hk=>h4 k (HJ (by simpa using hx) k hk)) h3) rfl
def Eu (o:Oper):Bool:=match o.op with
 | .box .. | .alloc .. | .buildSlice .. | .makeSlice ..=>true
 | _=>false
def VG (T:dA)(σ:St)(o:Oper)(F:St->Oper->Option St)(aR:St):Prop:=∃ d h b,o.dst=some d/\(h=.own d\/h=.pt d 0 0)/\aR={σ with sl:=bT σ.sl d h,bl:=(d,b)::σ.bl}/\av σ.bl d=none/\
 ∀ τ:St,(∀ x∈o.op.operands,τ.get x=σ.get x)->av τ.bl d=none->F τ o=some {τ with sl:=bT τ.sl d h,bl:=(d,b)::τ.bl}
theorem Se (hn:Eu o=true)(hs:step T σ o=some aR):VG T σ o (step T) aR:=by
 obtain⟨dst,op,type,pos,after,guard⟩:=o
 cases op<;>simp only[Eu] at hn<;>try (cases hn;done)
 case box t x=>
  simp only[step,Ec] at hs
  split at hs
  case h_2=>cases hs
  rename_i d i hT
  split at hs
  case h_2=>cases hs
  rename_i hb
  split at hs
  case h_2=>cases hs
  rename_i hc
  simp only[aaQ.injEq] at hs
  refine⟨d,_,_,rfl,.inr rfl,hs.symm,hb,λτ hx hbt=>?_⟩
  simp only[step,Ec,hT,hx x (by simp[Op.operands]),hbt,hc]
 case alloc t=>
  simp only[step,xb] at hs
  split at hs
  case h_2=>cases hs
  rename_i d i hT
  split at hs
  case h_2=>cases hs
  rename_i hb hza
  simp only[aaQ.injEq] at hs
  refine⟨d,_,_,rfl,.inr rfl,hs.symm,hb,λτ hx hbt=>?_⟩
  simp only[step,xb,hT,hbt,hza]
 case makeSlice t x y=>
  simp only[step,nu] at hs
  split at hs
  case h_2=>cases hs
  rename_i d e _ _ _ hT
  split at hs
  case h_2=>cases hs
  rename_i ie n m gQ hx1 hy1
  split at hs
  case h_2=>cases hs
  rename_i hc
  split at hs
  case h_2=>cases hs
  rename_i hb
  simp only[aaQ.injEq] at hs
  refine⟨d,_,_,rfl,.inl rfl,hs.symm,hb,λτ hx hbt=>?_⟩
  simp only[step,nu,hT,gQ,hx x (by simp[Op.operands]),hx y (by simp[Op.operands]),hx1,hy1,hbt,hc]
 case buildSlice t len ps=>
  simp only[step,jH] at hs
  split at hs
  case h_2=>cases hs
  rename_i d e _ _ _ hT
  split at hs
  ·rename_i ie gQ hps
   split at hs
   case h_2=>cases hs
   rename_i hb
   simp only[aaQ.injEq] at hs
   refine⟨d,_,_,rfl,.inl rfl,hs.symm,hb,λτ hx hbt=>?_⟩
   simp only[step,jH,hT,gQ,hps,hbt]
  ·rename_i ie x gQ hps
   split at hs
   case h_2=>cases hs
   rename_i hc
   split at hs
   case h_2=>cases hs
   rename_i hb
   simp only[aaQ.injEq] at hs
   refine⟨d,_,_,rfl,.inl rfl,hs.symm,hb,λτ hx hbt=>?_⟩
   have vx:τ.get x=σ.get x:=by
    refine hx x ?_
    simp only[Op.operands]
    rw[List.mem_toArray,hps]
    simp
   simp only[step,jH,hT,gQ,hps,vx,hbt,hc]
  cases hs
theorem HL :∀(D:List Nat) {d:Nat},d ∉ D->jj D (.own d)=.own d
 | [],_,_=>rfl
 | e::D,d,h=>by
  rw[jj,kill,beq_false (λhh=>h (by rw[hh];exact aa2 ..)),cond_false,HL D λhh=>h (aaX _ hh)]
theorem Kq :∀(D:List Nat) {d i j:Nat},d ∉ D->jj D (.pt d i j)=.pt d i j
 | [],_,_,_,_=>rfl
 | e::D,d,i,j,h=>by
  rw[jj,kill,beq_false (λhh=>h (by rw[hh];exact aa2 ..)),cond_false,Kq D λhh=>h (aaX _ hh)]
def TB (H:List Nat)(aR:St)(d:Nat):Bool:=match av aR.bl d with
 | some b=>okB H b
 | none=>false
def VH (aR:St)(d:Nat):List Nat:=match av aR.bl d with
 | some b=>Z0 b
 | none=>[]
def Sf (σ:St)(o:Oper)(aR:St)(d:Nat):Tag:=⟨[],[d],[d],d::(HI σ o.op.operands.toList++VH aR d),Kp (d::(HI σ o.op.operands.toList++VH aR d)) σ o.op.operands.toList && TB (d::(HI σ o.op.operands.toList++VH aR d)) aR d⟩
theorem Sg {F:St->Oper->Option St}{d:Nat}(hd:o.dst=some d)(hs:VG T σ o F aR)(hF:∀ τ mC,F τ o=some mC->rh T X o (λaA=>aA=mC) τ):∃ e,Good T X o e (Sf σ o aR d) σ/\aR.abs=e.app σ.abs:=by
  obtain⟨d',h,b,nL,hh,rfl,hb,h2⟩:=hs
  rw[hd] at nL;cases nL
  refine⟨⟨[],some d,h,[(d,some b)]⟩,⟨hd.symm,rfl,λk hk=>?_,λhp=>?_,λτ h3 h4=>?_⟩,ME _ _ _ _⟩
  · have hk:¬ d=k:=λhh=>hk (by rw[<- hh];exact aba.2 rfl)
    simp only[eG,beq_false hk,cond_false]
  · simp only[Sf,aaR] at hp
    refine⟨λx hx=>BX hp.1 (by simpa using hx),λD hD=>?_,λk b' hk=>?_,λk hk b' cP=>?_⟩
    · have hn:d ∉ D:=λhm=>hD d hm (aa2 ..)
      rcases hh with rfl | rfl
      · exact HL D hn
      · exact Kq D hn
    · simp only[eG] at hk
      cases hq:nq d k with
      | false=>rw[hq] at hk;cases hk
      | true=>
        rw[hq] at hk
        simp only[cond_true,aaQ.injEq] at hk
        subst hk
        have VI:=hp.2
        unfold TB at VI
        rw[show av ((d,b)::σ.bl) d=some b from by rw[bQ,if_pos rfl]] at VI
        exact VI
    · rw[aba.1 hk,hb] at cP;cases cP
  · have hbt:av τ.bl d=none:=by rw[h4 d (aba.2 rfl)];exact hb
    exact rA (λaA As=>by rw[As];exact ME _ _ _ _) (hF _ _ (h2 τ h3 hbt))
theorem Od (h:Eu o=true):bZ σ o=none:=by
 unfold bZ
 obtain⟨dst,op,type,pos,after,guard⟩:=o
 cases op<;>simp only[Eu] at h ⊢
 cases h
def VJ (d:Nat):Tag:=⟨[],[d],[d],[],false⟩
theorem Oe {t:TypeId}{x v:Operand}{d a j n:Nat}{rows:List (List PV)}(ho:o.op=.store t x v)(hx:σ.get x=.pt d a j)(hb:av σ.bl d=some ⟨.var,n,rows⟩)(hs:step T σ o=some aR):∃ e,Good T X o e (VJ d) σ/\aR.abs=e.app σ.abs:=by
  have ug:=hs
  simp only[step,ho] at hs
  split at hs
  case h_2=>cases hs
  rename_i hdst
  simp only[pS] at hs
  split at hs
  case h_2=>cases hs
  rename_i i hT
  split at hs
  case h_2=>cases hs
  rename_i d' a' j' aX
  rw[hx] at aX;cases aX
  split at hs
  case h_2=>cases hs
  rename_i hlen
  rw[hb] at hs
  split at hs
  · rename_i sz r hbb
    split at hs
    case h_2=>cases hs
    rename_i hc
    simp only[aaQ.injEq] at hs
    refine⟨⟨[],none,.aa,[(d,some ⟨.var,sz,[gR r j (cellsOf (σ.get v))]⟩)]⟩,⟨hdst.symm,rfl,λk hk=>?_,λhp=>(by cases hp),λτ h3 h4=>?_⟩,by rw[<- hs];exact BW _ _ _⟩
    · have hk:¬ d=k:=λhh=>hk (by rw[<- hh];exact aba.2 rfl)
      simp only[eG,beq_false hk,cond_false]
    · have hbt:av τ.bl d=some ⟨.var,sz,[r]⟩:=by rw[h4 d (aba.2 rfl),hb,hbb]
      refine lM (aA:={τ with bl:=cg τ.bl d ⟨.var,sz,[gR r j (cellsOf (σ.get v))]⟩}) ?_ ?_ (BW _ _ _)
      · unfold bZ;rw[ho]
      · simp only[step,ho,hdst,pS,hT,h3 x (by rw[ho];simp[Op.operands]),h3 v (by rw[ho];simp[Op.operands]),hx,hlen,hbt,hc]
  · rename_i hbb;cases hbb
  · cases hs
def BY (T:dA)(σ:St)(o:Oper)(aR:St):Option Tag:=match kp o with
  | true=>some (VF σ o aR)
  | false=>match Eu o,o.dst with
    | true,some d=>some (Sf σ o aR d)
    | _,_=>match o.op with
      | .store _ x _=>match σ.get x with
        | .pt d _ _=>match av σ.bl d with
          | some ⟨.var,_,_⟩=>some (VJ d)
          | _=>none
        | _=>none
      | _=>none
theorem Dx {t:Tag}(hc:bZ σ o=none)(hs:step T σ o=some aR)(ht:BY T σ o aR=some t):∃ e,Good T X o e t σ/\aR.abs=e.app σ.abs:=by
 unfold BY at ht
 split at ht
 ·rename_i hp
  cases ht
  exact PZ hp hs
 split at ht
 ·rename_i hn hd
  cases ht
  exact Sg hd (Se hn hs) λτ mC h=>lM (Od hn) h rfl
 split at ht
 ·rename_i ho
  split at ht
  case h_2=>cases ht
  rename_i d a j hx
  split at ht
  case h_2=>cases ht
  rename_i hb
  cases ht
  exact Oe ho hx hb hs
 cases ht
def Gf (A:ax)(T:dA):Nat->List Oper->List Tag->St->Option (List Oper × List Tag × St)
  | 0,l,ts,σ=>some (l,ts,σ)
  | _+1,[],_,_=>none
  | n+1,o::l,ts,σ=>match o.guard,bZ σ o with
    | none,none=>match vy A T σ o with
      | some aR=>match BY T σ o aR with
        | some t=>Gf A T n l (t::ts) aR
        | none=>none
      | none=>none
    | _,_=>none
theorem lE {t:Tag}(hg:nB R σ o=true)(h:∃ e,Good T X o e t σ/\aR.abs=e.app σ.abs)(hr:ir T X R l (t::ts) K aR):ir T X R (o::l) ts K σ:=by
 obtain⟨e,h1,h2⟩:=h
 exact⟨hg,e,t,aR,h1,h2,hr⟩
theorem Kj (hA:A=aj):∀(n:Nat) (l l':List Oper) (ts sQ:List Tag) (σ aA:St),Gf A T n l ts σ=some (l',sQ,aA)->ir T X R l' sQ K aA->ir T X R l ts K σ
 | 0,l,l',ts,sQ,σ,aA,h,ha=>by
  simp only[Gf,aaQ.injEq,acg.injEq] at h
  obtain⟨rfl,rfl,rfl⟩:=h
  exact ha
 | n+1,[],l',ts,sQ,σ,aA,h,ha=>by simp[Gf] at h
 | n+1,o::l,l',ts,sQ,σ,aA,h,ha=>by
  simp only[Gf] at h
  split at h
  ·rename_i hg hc
   split at h
   ·rename_i aR hs
    split at h
    ·rename_i t ht
     exact lE (Sd hg) (Dx hc (mD (hA ▸ hs)) ht) (Kj hA n _ _ _ _ _ _ h ha)
    cases h
   cases h
  cases h
theorem dc {t:Tag}(hg:nB R σ o=true)(hc:bZ σ o=none)(hs:step T σ o=some aR)(h:ir T X R l (t::ts) K aR)(ht:BY T σ o aR=some t:=by cbv):ir T X R (o::l) ts K σ:=lE hg (Dx hc hs ht) h
theorem lF {t:Tag}(hA:A=aj)(hg:nB R σ o=true)(hc:bZ σ o=none)(hs:vy A T σ o=some aR)(h:ir T X R l (t::ts) K aR)(ht:BY T σ o aR=some t:=by cbv):ir T X R (o::l) ts K σ:=lE hg (Dx hc (mD (hA ▸ hs)) ht) h
theorem sf {b c:Bool}{t:Tag}(hA:A=aj)(hg:nB R σ o=true)(hc:bZ σ o=none)(hs:vy A T σ o=some (σ.put o.dst (.bool b)))(hb:b=c)(h:ir T X R l (t::ts) K (σ.put o.dst (.bool c)))(ht:BY T σ o (σ.put o.dst (.bool c))=some t:=by cbv):ir T X R (o::l) ts K σ:=by
 subst hb;exact lF hA hg hc hs h ht
theorem cS (ht:uu R ts.reverse R.size=true)(h:K σ):ir T X R [] ts K σ:=⟨ht,h⟩
theorem Si (hp:BP o=true)(hs:eC T σ o=some aR):∃ e,Good T X o e (sF σ o aR []) σ/\aR.abs=e.app σ.abs:=by
 obtain⟨v,rfl,h2⟩:=Ev hp hs
 refine Dv rfl rfl Gi λτ h3 h4=>?_
 exact .inr (.inr (.inr (.inr (.inr (.inr (.inl ⟨_,h2 τ h3,rfl⟩))))))
theorem oe {t:Tag}(hg:nB R σ o=true)(hp:BP o=true)(hs:eC T σ o=some aR)(h:ir T X R l (t::ts) K aR)(ht:sF σ o aR []=t:=by cbv):ir T X R (o::l) ts K σ:=by
 subst ht;exact lE hg (Si hp hs) h
def mR :List PV->List Nat
 | []=>[]
 | .own e::l=>e::mR l
 | _::l=>mR l
def Og :List (List PV)->List Nat
 | []=>[]
 | r::l=>mR r++Og l
theorem Au {r:List PV}:∀{l:List (List PV)},r∈l->∀ k∈mR r,k∈Og l
 | q::l,h,k,hk=>by
  rcases aa9.1 h with rfl | h
  ·exact abp _ hk
  exact abe _ (Au h k hk)
def YT (b:aO):List Nat:=match b with
 | ⟨.arr,_,_⟩=>[]
 | ⟨_,_,rows⟩=>Og rows
def BZ (bl:List (Nat × aO))(d:Nat):List Nat:=match av bl d with
 | some b=>d::YT b
 | none=>[d]
mutual
def tz (bl:List (Nat × aO)):PV->List Nat
 | .own d=>BZ bl d
 | .pt d _ _=>BZ bl d
 | .agg cs=>oI bl cs
 | .aw vs=>oI bl vs
 | .fn _ caps=>oI bl caps
 | _=>[]
def oI (bl:List (Nat × aO)):List PV->List Nat
 | []=>[]
 | c::l=>tz bl c++oI bl l
end
mutual
def B0 (bl:List (Nat × aO)):PV->Bool
  | .pt d _ _=>match av bl d with
    | some ⟨.arr,_,_⟩=>false
    | _=>true
  | .agg cs=>qA bl cs
  | .aw vs=>qA bl vs
  | .fn _ caps=>qA bl caps
  | _=>true
def qA (bl:List (Nat × aO)):List PV->Bool
 | []=>true
 | c::l=>B0 bl c && qA bl l
end
theorem wG {bl qc:List (Nat × aO)}:∀{l:List PV},(∀ k∈mR l,av qc k=av bl k)->nF qc l=nF bl l
 | [],_=>rfl
 | c::l,h=>by
  have hl:∀ k∈mR l,av qc k=av bl k:=λk hk=>h k (by cases c<;>first | exact hk | exact aaX _ hk)
  rw[nF,nF,wG hl]
  congr 1
  cases c<;>first | rfl | skip
  rename_i e
  simp only[Eb]
  rw[h e (aa2 ..)]
theorem Ew :∀(l:List PV) (j:Nat),∀ k∈mR (l.drop j),k∈mR l
 | [],j,k,h=>by simp[mR] at h
 | c::l,0,k,h=>h
 | c::l,j+1,k,h=>by
  have:=Ew l j k (by simpa using h)
  cases c<;>first | exact this | exact aaX _ this
mutual
theorem Oh {bl qc:List (Nat × aO)}:∀{v:PV},B0 bl v=true->(∀ k∈tz bl v,av qc k=av bl k)->view qc v=view bl v
 | .own d,_,h=>by
  have hd:av qc d=av bl d:=h d (by rw[tz,BZ];split<;>exact aa2 ..)
  simp only[view,hd]
  split
  ·rfl
  ·rename_i sz r hb
   rw[wG λk hk=>h k (by rw[tz,BZ,hb];exact aaX _ (Au (aba.2 rfl) k hk))]
  rfl
 | .pt d i j,hv,h=>by
  have hd:av qc d=av bl d:=h d (by rw[tz,BZ];split<;>exact aa2 ..)
  simp only[view,hd]
  split
  ·rename_i bk sz rows hb
   split
   ·rename_i r hr
    rw[wG (bl:=bl) λk hk=>?_]
    refine h k ?_
    rw[tz,BZ,hb]
    refine aaX _ ?_
    have hk:=Ew _ _ k hk
    simp only[B0,hb] at hv
    cases bk
    case arr=>cases hv
    all_goals exact Au (List.mem_of_getElem? hr) k hk
   rfl
  rfl
 | .agg cs,hv,h=>by rw[view,view,lN (by simpa [B0] using hv) (by simpa [tz] using h)]
 | .aw cs,hv,h=>by rw[view,view,lN (by simpa [B0] using hv) (by simpa [tz] using h)]
 | .fn f cs,hv,h=>by rw[view,view,lN (by simpa [B0] using hv) (by simpa [tz] using h)]
 | .int _ _,_,_=>by simp[view]
 | .bool _,_,_=>by simp[view]
 | .str _,_,_=>by simp[view]
 | .zc,_,_=>by simp[view]
 | .sl _ _,_,_=>by simp[view]
 | .ow _ _,_,_=>by simp[view]
 | .rd _,_,_=>by simp[view]
 | .raw _,_,_=>by simp[view]
 | .aa,_,_=>by simp[view]
theorem lN {bl qc:List (Nat × aO)}:∀{l:List PV},qA bl l=true->(∀ k∈oI bl l,av qc k=av bl k)->fD qc l=fD bl l
 | [],_,_=>rfl
 | c::l,hv,h=>by
  simp only[qA,aaR] at hv
  rw[fD,fD,Oh hv.1 λk hk=>h k (by rw[oI];exact abp _ hk),lN hv.2 λk hk=>h k (by rw[oI];exact abe _ hk)]
end
def vt :List (Nat × aO)->List Nat
 | []=>[]
 | (d,_)::l=>d::vt l
def tA :List (Nat × aO)->List (Nat × Option aO)
 | []=>[]
 | (d,b)::l=>(d,some b)::tA l
theorem qC (k:Nat):∀ l:List (Nat × aO),eG (tA l) k=(av l k).map some
 | []=>rfl
 | (d,b)::l=>by
  simp only[tA,eG,av,qC k l]
  cases nq d k<;>rfl
theorem Aw {k:Nat}:∀{l:List (Nat × aO)},k ∉ vt l->av l k=none
 | [],_=>rfl
 | (d,b)::l,h=>by
  rw[bQ,if_neg (λhh=>h (by rw[hh];exact aa2 ..)),Aw λhh=>h (aaX _ hh)]
theorem wH {bl qc:List (Nat × aO)}:∀{l:List (Nat × aO)},(∀ k∈vt l,av qc k=av bl k)->cV qc l=cV bl l
 | [],_=>rfl
 | (d,b)::l,h=>by
  simp only[cV]
  rw[h d (aa2 ..),wH λk hk=>h k (aaX _ hk)]
theorem Kr (σ:St)(d:Nat)(r:PV):(σ.bind d r).abs=(⟨[],some d,(gH true d r).1,tA (gH true d r).2⟩:cQ).app σ.abs:=by
 have h:(⟨[],some d,(gH true d r).1,tA (gH true d r).2⟩:cQ).m σ.abs.m=av ((gH true d r).2++σ.bl):=by
  funext k
  rw[fZ]
  simp only[cQ.m,qC,map_nil,St.abs]
  cases av (gH true d r).2 k<;>rfl
 simp only[cQ.app,h];rfl
theorem Ob {g:FuncId}{args az:List PV}{d:Nat}{r:PV}{W Ks:List Nat}(hg:nB R σ o=true)(hd:o.dst=some d)(hc:bZ σ o=some (g,args))(hv:fD σ.bl args=az)(hX:X g az r)(hf:fresh r\/iT args=true)
  (h:ir T X R l (⟨[],W,Ks,[],false⟩::ts) K (σ.bind d r)) (hfree:cV σ.bl (gH true d r).2=true:=by cbv) (hvs:qA σ.bl args=true:=by cbv) (hW:vt (gH true d r).2=W:=by cbv) (hK:oI σ.bl args++W=Ks:=by cbv):ir T X R (o::l) ts K σ:=by
 subst hW;subst hK
 refine lE hg ⟨⟨[],some d,(gH true d r).1,tA (gH true d r).2⟩,⟨hd.symm,rfl,λk hk=>?_,λhp=>(by cases hp),λτ h3 h4=>?_⟩,Kr σ d r⟩ h
 ·rw [qC,Aw hk];rfl
 refine .inl ?_
 unfold nS
 rw[qD h3,hc,hd]
 refine⟨r,?_,hf,.inl ⟨?_,Kr τ d r⟩⟩
 ·rw [lN hvs λk hk=>h4 k (abp _ hk),hv];exact hX
 rw[wH λk hk=>h4 k (abe _ hk)];exact hfree
theorem Oa {g:FuncId}{args az:List PV}{d:Nat}{r r':PV}{tg:Tag}(hg:nB R σ o=true)(hd:o.dst=some d)(hc:bZ σ o=some (g,args))(hv:fD σ.bl args=az)(hX:X g az r)(hf:fresh r\/iT args=true)
  (h:ir T X R l (tg::ts) K (σ.put (some d) r')) (hr:froze r=r':=by cbv) (hvs:qA σ.bl args=true:=by cbv) (ht:sF σ o (σ.put (some d) r') (oI σ.bl args)=tg:=by cbv):ir T X R (o::l) ts K σ:=by
 subst ht;subst hr
 have hG:=Dv (T:=T) (X:=X) (σ:=σ) (o:=o) (v:=froze r) (t:=sF σ o (σ.put o.dst (froze r)) (oI σ.bl args)) rfl rfl Gi λτ h3 h4=>?_
 ·have e:σ.put o.dst (froze r)=σ.put (some d) (froze r):=by rw[hd]
  rw[e] at hG
  exact lE hg hG h
 refine .inl ?_
 unfold nS
 rw[qD h3,hc,hd]
 refine⟨r,?_,hf,.inr rfl⟩
 rw[lN hvs λk hk=>h4 k hk,hv];exact hX
def cQ.comp (e2 e1:cQ):cQ:=⟨e1.D++e2.D,e2.d,e2.v,e2.U++e1.U.map λp=>(p.1,p.2.map (kS e2.D))⟩
theorem Ex :∀(D D':List Nat) (l:List PV),fy (D++D') l=fy D' (fy D l)
 | [],_,_=>rfl
 | d::D,D',l=>by rw[abt,fy,Ex D];rfl
theorem Ey :∀(D D':List Nat) (b:aO),kS (D++D') b=kS D' (kS D b)
 | [],_,_=>rfl
 | d::D,D',b=>by rw[abt,kS,Ey D];rfl
theorem HM :∀(D D':List Nat) (l:List (Nat × Value)),oJ (D++D') l=oJ D' (oJ D l)
 | [],_,_=>rfl
 | d::D,D',l=>by rw[abt,oJ,HM D];rfl
theorem og (k:Nat):∀(a b:List (Nat × Option aO)),eG (a++b) k=match eG a k with | some x=>some x | none=>eG b k
 | [],_=>rfl
 | (d,x)::a,b=>by
  simp only[abt,eG,og k a b]
  cases nq d k<;>rfl
theorem qd (k:Nat)(f:Option aO->Option aO):∀(a:List (Nat × Option aO)),eG (a.map λp=>(p.1,f p.2)) k=(eG a k).map f
 | []=>rfl
 | (d,x)::a=>by
  simp only[List.map_cons,eG,qd k f a]
  cases nq d k<;>rfl
theorem oh {e1 e2:cQ}(h:e1.d=none)(s:AS):(e2.comp e1).app s=e2.app (e1.app s):=by
 have hm:(e2.comp e1).m s.m=e2.m (e1.m s.m):=by
  funext k
  simp only[cQ.m,cQ.comp,og,qd]
  cases eG e2.U k with
  | some x=>rfl
  | none=>
   cases eG e1.U k with
   | some x=>rfl
   | none=>
    simp only[ach]
    cases s.m k with
    | none=>rfl
    | some b=>simp only[ab2,Ey]
 have e0:(e1.app s).m=e1.m s.m:=rfl
 have e3:(e1.app s).sl=fy e1.D s.sl:=by simp only[cQ.app,h,jP]
 have e4:(e1.app s).hd=oJ e1.D s.hd:=rfl
 show AS.mk (jP (fy (e1.D++e2.D) s.sl) e2.d e2.v) ((e2.comp e1).m s.m) (oJ (e1.D++e2.D) s.hd)=AS.mk (jP (fy e2.D (e1.app s).sl) e2.d e2.v) (e2.m (e1.app s).m) (oJ e2.D (e1.app s).hd)
 rw[hm,e0,e3,e4,Ex,HM]
def P0 :cQ:=⟨[],none,.aa,[]⟩
theorem P1 (s:AS):P0.app s=s:=by
 have:P0.m s.m=s.m:=by funext k;simp only[cQ.m,P0,eG,map_nil]
 show AS.mk s.sl (P0.m s.m) s.hd=s
 rw[this]
theorem qe {σ:St}{e:cQ}{τ:St}(h:τ.abs=e.app σ.abs)(k:Nat):av τ.bl k=e.m (av σ.bl) k:=by
 have:=congrArg AS.m h
 exact congrFun this k
def Leaves (σ:St)(D:List Nat)(aA:St)(F:St->St->Prop):Prop:=∃ e:cQ,e.d=none/\e.D=D/\(∀ k,k ∉ D->eG e.U k=none)/\aA.abs=e.app σ.abs/\∀ τ:St,(∀ k∈D,av τ.bl k=av σ.bl k)->∃ mC,F τ mC/\mC.abs=e.app τ.abs
theorem vz {F:St->St->Prop}(h:∀ τ,F τ τ):Leaves σ [] σ F:=⟨P0,rfl,rfl,λ_ _=>rfl,(P1 _).symm,λτ _=>⟨τ,h τ,(P1 _).symm⟩⟩
theorem Ax {D D':List Nat}{bo:St}{F F' G:St->St->Prop}(h1:Leaves σ D aR F)(h2:Leaves aR D' bo F')(hG:∀ a b c,F a b->F' b c->G a c):Leaves σ (D++D') bo G:=by
  obtain⟨e,a1,a2,a3,a4,a5⟩:=h1
  obtain⟨e',b1,b2,b3,b4,b5⟩:=h2
  refine⟨e'.comp e,b1,by simp only[cQ.comp,a2,b2],λk hk=>?_,by rw[oh a1,<- a4,b4],λτ zh=>?_⟩
  · simp only[cQ.comp,og,qd]
    rw[b3 k λhh=>hk (abe _ hh),a3 k λhh=>hk (abp _ hh)];rfl
  · obtain⟨TC,c1,c2⟩:=a5 τ λk hk=>zh k (abp _ hk)
    obtain⟨Ay,d1,d2⟩:=b5 TC λk hk=>by
      rw[qe c2,qe a4]
      simp only[cQ.m]
      rw[zh k (abe _ hk)]
    exact⟨Ay,hG _ _ _ c1 d1,by rw[oh a1,<- c2,d2]⟩
theorem wI {d:Nat}{F:St->St->Prop}(h:∀ τ:St,av τ.bl d=av σ.bl d->F τ (τ.drop d)):Leaves σ [d] (σ.drop d) F:=
 ⟨⟨[d],none,.aa,[(d,none)]⟩,rfl,rfl,λk hk=>by
  have hk:¬ d=k:=λhh=>hk (by rw[<- hh];exact aba.2 rfl)
  simp only[eG,beq_false hk,cond_false],Ko σ d,λτ zh=>⟨τ.drop d,h τ (zh d (aba.2 rfl)),Ko τ d⟩⟩
theorem Gj {c c':PV}(h:dD σ c=some (c',aA)):Leaves σ (match c with | .own e=>[e] | _=>[]) aA λτ mC=>dD τ c=some (c',mC):=by
  have leaf:∀{c:PV},dD σ c=some (c',aA)->(∀ τ:St,dD τ c=(dD σ c).map λp=>(p.1,τ))->(∀ p,dD σ c=some p->p.2=σ)->Leaves σ [] aA λτ mC=>dD τ c=some (c',mC):=by
    intro c h h1 h2
    have:=h2 _ h
    simp only at this
    subst this
    exact vz λτ=>by rw[h1,h];rfl
  cases c with
  | own d=>
    have h0:=h
    simp only[dD] at h
    split at h
    · rename_i sz rows hb
      simp only[aaQ.injEq,acg.injEq] at h
      obtain⟨rfl,rfl⟩:=h
      exact wI λτ zh=>by simp only[dD,zh,hb]
    · cases h
  | _=>
    refine leaf h (λτ=>?_) (λp hp=>?_)
    · simp[dD,bG]
    · simp[dD,bG] at hp<;>(try rw[<- hp])
theorem oK :∀{cs cx:List PV} {σ aA:St},ek σ cs=some (cx,aA)->Leaves σ (mR cs) aA λτ mC=>ek τ cs=some (cx,mC)
 | [],cx,σ,aA,h=>by
  simp only[ek,aaQ.injEq,acg.injEq] at h
  obtain⟨rfl,rfl⟩:=h
  exact vz λτ=>rfl
 | c::cs,cx,σ,aA,h=>by
  simp only[ek] at h
  split at h
  case h_2=>cases h
  rename_i c' aR h1
  split at h
  case h_2=>cases h
  rename_i l' bo h2
  simp only[aaQ.injEq,acg.injEq] at h
  obtain⟨rfl,rfl⟩:=h
  have:=Ax (Gj h1) (oK h2) (G:=λτ mC=>ek τ (c::cs)=some (c'::l',mC)) λa b d ha hb=>by simp only[ek,ha,hb]
  cases c<;>exact this
def JN (σ:St)(y:PV):List Nat:=match y with
  | .own e=>match av σ.bl e with
    | some ⟨.lit,_,[r]⟩=>e::mR r
    | _=>[e]
  | _=>[]
theorem I6 {sz:Nat}{y:PV}{news:List (List PV)}(h:mX σ sz y=some (news,aA)):Leaves σ (JN σ y) aA λτ mC=>mX τ sz y=some (news,mC):=by
 cases y<;>simp only[mX] at h<;>try (cases h;done)
 case zc=>
  simp only[aaQ.injEq,acg.injEq] at h
  obtain⟨rfl,rfl⟩:=h
  exact vz λτ=>rfl
 case sl s rows=>
  cases hq:nq s sz with
  | false=>rw[hq] at h;cases h
  | true=>
   rw[hq] at h
   simp only[cond_true,aaQ.injEq,acg.injEq] at h
   obtain⟨rfl,rfl⟩:=h
   exact vz λτ=>by simp only[mX,hq,cond_true]
 case own d=>
  split at h
  ·rename_i s rows hb
   cases hq:nq s sz with
   | false=>rw[hq] at h;cases h
   | true=>
    rw[hq] at h
    simp only[cond_true,aaQ.injEq,acg.injEq] at h
    obtain⟨rfl,rfl⟩:=h
    simp only[JN,hb]
    exact wI λτ zh=>by simp only[mX,zh,hb,hq,cond_true]
  ·rename_i s r hb
   cases hq:nq s sz with
   | false=>rw[hq] at h;cases h
   | true=>
    rw[hq] at h
    simp only[cond_true] at h
    split at h
    case h_2=>cases h
    rename_i r' bo ha
    simp only[aaQ.injEq,acg.injEq] at h
    obtain⟨rfl,rfl⟩:=h
    simp only[JN,hb]
    have h1:Leaves σ [d] (σ.drop d) λτ mC=>mC=τ.drop d/\av τ.bl d=some ⟨.lit,s,[r]⟩:=wI λτ zh=>⟨rfl,by rw[zh,hb]⟩
    exact Ax h1 (oK ha) (G:=λτ mC=>mX τ sz (.own d)=some ([r'],mC)) λa b c ⟨gg,sS⟩ hc=>by
     subst gg
     simp only[mX,sS,hq,cond_true,hc]
  cases h
theorem sG :∀(D:List Nat) {v:PV} {d:Nat},jj D v=.own d->v=.own d
 | [],_,_,h=>h
 | e::D,v,d,h=>by
  rw[jj] at h
  have h1:=sG D h
  cases v<;>simp only[kill] at h1<;>try (cases h1;done)
  case own x=>
   cases hq:nq x e with
   | true=>rw[hq] at h1;cases h1
   | false=>rw[hq] at h1;exact h1
  case pt x i j=>cases hq:nq x e<;>rw[hq] at h1<;>cases h1
theorem iF {c:Call}{t t':TypeId}{x y:Operand}{d dd:Nat}{D:List Nat}(ho:o.op=.call c)(hcc:c.callee=.builtin .append)(hca:c.args.toList=[x,y])(hct:c.argTypes.toList=[t,t'])(hg:nB R σ o=true)(hd:o.dst=some dd)(hx:σ.get x=.own d)(hs:step T σ o=some aR)
    (h:ir T X R l (⟨D,D,D,[],false⟩::ts) K aR) (hD:JN σ (σ.get y)++[d]=D:=by cbv):ir T X R (o::l) ts K σ:=by
  subst hD
  have hnc:∀ τ:St,bZ τ o=none:=λτ=>by unfold bZ;rw[ho];simp only[hcc]
  have hst:∀ τ:St,step T τ o=bif nq t t' then pF T τ o.dst t x y else none:=λτ=>by simp only[step,ho,hcc,hca,hct]
  have hopx:x∈o.op.operands:=by
    rw[ho];simp only[Op.operands,Call.operands,hcc]
    have:x∈c.args.toList:=by rw[hca];simp
    simpa using this
  have hopy:y∈o.op.operands:=by
    rw[ho];simp only[Op.operands,Call.operands,hcc]
    have:y∈c.args.toList:=by rw[hca];simp
    simpa using this
  rw[hst] at hs
  cases hq:nq t t' with
  | false=>rw[hq] at hs;cases hs
  | true=>
    rw[hq,hd] at hs
    simp only[cond_true,pF] at hs
    split at hs
    case h_2=>cases hs
    rename_i dd' e _ _ _ hdd hT
    cases hdd
    split at hs
    case h_2=>cases hs
    rename_i ie gQ
    split at hs
    case h_2=>cases hs
    rename_i news bo hn
    obtain⟨E,a1,a2,a3,a4,a5⟩:=I6 hn
    have hget:∀{τ mC:St},mC.abs=E.app τ.abs->τ.get x=.own d->bo.get x=.own d->mC.get x=.own d:=by
      intro τ mC zh h1 h2
      cases x with
      | tmp u=>
        have e1:mC.sl=fy E.D τ.sl:=by
          have:=congrArg AS.sl zh
          simp only[St.abs,cQ.app,a1,jP] at this
          exact this
        have e2:bo.sl=fy E.D σ.sl:=by
          have:=congrArg AS.sl a4
          simp only[St.abs,cQ.app,a1,jP] at this
          exact this
        have h2:bM bo.sl u=.own d:=h2
        rw[e2,ny] at h2
        have h3:bM σ.sl u=.own d:=sG _ h2
        rw[h3] at h2
        show bM mC.sl u=.own d
        rw[e1,ny,show bM τ.sl u=.own d from h1]
        exact h2
      | const v=>exact h1
      | func f=>exact h1
      | global g=>exact h1
    have cX:bo.get x=.own d\/bo.get x≠ .own d:=Classical.em _
    split at hs
    · rename_i d' aX
      have hdd:d'=d:=by
        cases x with
        | tmp u=>
          have e2:bo.sl=fy E.D σ.sl:=by
            have:=congrArg AS.sl a4
            simp only[St.abs,cQ.app,a1,jP] at this
            exact this
          have aX:bM bo.sl u=.own d':=aX
          rw[e2,ny] at aX
          have h3:=sG _ aX
          have hx:bM σ.sl u=.own d:=hx
          rw[h3] at hx;cases hx;rfl
        | const v=>
            have:bo.get (.const v)=σ.get (.const v):=rfl
            rw[this,hx] at aX;cases aX;rfl
        | func f=>cases hx
        | global g=>cases hx
      subst hdd
      split at hs
      case h_2=>cases hs
      rename_i sz rows hb
      split at hs
      case h_2=>cases hs
      rename_i hc
      simp only[aaQ.injEq] at hs
      have two:∀ τ:St,St.abs {sl:=bT (fp d' τ.sl) dd (.own d'),bl:=cg (fX d' τ.bl) d' ⟨.arr,sz,rows++news⟩,hd:=iS τ.hd d'}=(⟨[d'],some dd,.own d',[(d',some ⟨.arr,sz,rows++news⟩)]⟩:cQ).app τ.abs:=by
        intro τ
        have hm:(⟨[d'],some dd,.own d',[(d',some ⟨.arr,sz,rows++news⟩)]⟩:cQ).m τ.abs.m=av (cg (fX d' τ.bl) d' ⟨.arr,sz,rows++news⟩):=by
          funext k
          rw[ct,gw]
          simp only[cQ.m,eG,St.abs]
          by_cases hk:d'=k
          · subst hk;rw[beq_true,if_pos rfl];rfl
          · rw[beq_false hk,if_neg hk];rfl
        simp only[cQ.app,hm];rfl
      refine lE hg ⟨(⟨[d'],some dd,.own d',[(d',some ⟨.arr,sz,rows++news⟩)]⟩:cQ).comp E,⟨hd.symm,by simp only[cQ.comp,a2],λk hk=>?_,λhp=>(by cases hp),λτ h3 h4=>?_⟩,?_⟩ h
      · have sT:¬ d'=k:=λhh=>hk (abe _ (by rw[<- hh];exact aba.2 rfl))
        simp only[cQ.comp,og,qd,eG,beq_false sT,cond_false]
        rw[a3 k λhh=>hk (abp _ hh)];rfl
      · obtain⟨Ay,b1,b2⟩:=a5 τ λk hk=>h4 k (abp _ hk)
        have hxt:Ay.get x=.own d':=hget b2 (by rw[h3 x hopx];exact hx) aX
        have hbt:av Ay.bl d'=some ⟨.arr,sz,rows⟩:=by
          rw[qe b2,<- hb,qe a4]
          simp only[cQ.m]
          rw[h4 d' (abe _ (aba.2 rfl))]
        refine lM (hnc τ) (aA:={sl:=bT (fp d' Ay.sl) dd (.own d'),bl:=cg (fX d' Ay.bl) d' ⟨.arr,sz,rows++news⟩,hd:=iS Ay.hd d'}) ?_ ?_
        · rw[hst,hq,hd]
          simp only[cond_true,pF,hT,gQ,h3 y hopy,b1,hxt,hbt,hc]
        · rw[two,oh a1,b2]
      · rw[<- hs,two,oh a1,a4]
    · rename_i aX
      exfalso
      cases x with
      | tmp u=>
        have e2:bo.sl=fy E.D σ.sl:=by
          have:=congrArg AS.sl a4
          simp only[St.abs,cQ.app,a1,jP] at this
          exact this
        have aX:bM bo.sl u=.zc:=aX
        have hx:bM σ.sl u=.own d:=hx
        rw[e2,ny,hx] at aX
        have:∀(D:List Nat) (v:PV),v=.own d\/v=.aa->jj D v=.own d\/jj D v=.aa:=by
          intro D
          induction D with
          | nil=>intro v h;exact h
          | cons e D ih=>
            intro v h
            rw[jj]
            refine ih _ ?_
            rcases h with rfl | rfl
            · rw[kill];cases nq d e<;>simp
            · simp[kill]
        rcases this E.D (.own d) (.inl rfl) with h1 | h1<;>rw[h1] at aX<;>cases aX
      | const v=>
          have:bo.get (.const v)=σ.get (.const v):=rfl
          rw[this,hx] at aX;cases aX
      | func f=>cases hx
      | global g=>cases hx
    · cases hs
theorem Kt {t:TypeId}{x v:Operand}{d a j:Nat}{D W:List Nat}(ho:o.op=.store t x v)(hx:σ.get x=.pt d a j)(jm:∃ s r,av σ.bl d=some ⟨.arr,s,r⟩)(hg:nB R σ o=true)(hs:step T σ o=some aR)
    (h:ir T X R l (⟨D,W,W,[],false⟩::ts) K aR) (hD:mR (cellsOf (σ.get v))=D:=by cbv) (hW:D++[d]=W:=by cbv):ir T X R (o::l) ts K σ:=by
  subst hD;subst hW
  obtain⟨s0,r0,jm⟩:=jm
  simp only[step,ho] at hs
  split at hs
  case h_2=>cases hs
  rename_i hdst
  simp only[pS] at hs
  split at hs
  case h_2=>cases hs
  rename_i i hT
  split at hs
  case h_2=>cases hs
  rename_i d' a' j' aX
  rw[hx] at aX;cases aX
  split at hs
  case h_2=>cases hs
  rename_i hlen
  rw[jm] at hs
  simp only at hs
  split at hs
  case h_2=>cases hs
  rename_i cs bo ha
  obtain⟨E,a1,a2,a3,a4,a5⟩:=oK ha
  split at hs
  case h_2=>cases hs
  rename_i sz rows hb
  split at hs
  case h_2=>cases hs
  rename_i r hr
  split at hs
  case h_2=>cases hs
  rename_i hle
  simp only[aaQ.injEq] at hs
  refine lE hg ⟨(⟨[],none,.aa,[(d,some ⟨.arr,sz,rows.set a (gR r j cs)⟩)]⟩:cQ).comp E,⟨hdst.symm,by simp only[cQ.comp,a2,abm],λk hk=>?_,λhp=>(by cases hp),λτ h3 h4=>?_⟩,?_⟩ h
  · have sT:¬ d=k:=λhh=>hk (abe _ (by rw[<- hh];exact aba.2 rfl))
    simp only[cQ.comp,og,qd,eG,beq_false sT,cond_false]
    rw[a3 k λhh=>hk (abp _ hh)];rfl
  · obtain⟨Ay,b1,b2⟩:=a5 τ λk hk=>h4 k (abp _ hk)
    have hbt:av Ay.bl d=some ⟨.arr,sz,rows⟩:=by
      rw[qe b2,<- hb,qe a4]
      simp only[cQ.m]
      rw[h4 d (abe _ (aba.2 rfl))]
    have aag:av τ.bl d=some ⟨.arr,s0,r0⟩:=by rw[h4 d (abe _ (aba.2 rfl)),jm]
    refine lM (by unfold bZ;rw[ho]) (aA:={Ay with bl:=cg Ay.bl d ⟨.arr,sz,rows.set a (gR r j cs)⟩}) ?_ ?_
    · simp only[step,ho,hdst,pS,hT,h3 x (by rw[ho];simp[Op.operands]),h3 v (by rw[ho];simp[Op.operands]),hx,hlen,aag,b1,hbt,hr,hle]
    · rw[BW,oh a1,b2]
  · rw[<- hs,BW,oh a1,a4]
theorem P2 {g:FuncId}{d n:Nat}{rest vq row ki cs cx:List PV}{aR:St}{r:PV}{D W Ks:List Nat}(id:Nat)(hg:nB R σ o=true)(hc:bZ σ o=some (g,.pt d 0 0::rest))(hb:av σ.bl d=some ⟨.var,n,[row]⟩)(ha:ek σ row=some (cs,aR))(gg:av aR.bl d=some ⟨.var,n,[ki]⟩)
    (hv:fD σ.bl rest=vq) (hX:X.v g cs vq cx r) (jL:iT rest=true) (hl:nq cx.length n=true) (hf:cV aR.bl (bJ true id cx).2=true)
    (h:ir T X R l (⟨D,W,Ks,[],false⟩::ts) K (St.put {aR with bl:=(bJ true id cx).2++cg aR.bl d ⟨.var,n,[(bJ true id cx).1]⟩} o.dst (froze r)))
    (hvs:qA σ.bl rest=true:=by cbv) (hD:mR row=D:=by cbv) (hW:D++(d::vt (bJ true id cx).2)=W:=by cbv) (hK:W++oI σ.bl rest=Ks:=by cbv):ir T X R (o::l) ts K σ:=by
  subst hD;subst hW;subst hK
  obtain⟨E,a1,a2,a3,a4,a5⟩:=oK ha
  have hset:∀ τ:St,St.abs (St.put {τ with bl:=(bJ true id cx).2++cg τ.bl d ⟨.var,n,[(bJ true id cx).1]⟩} o.dst (froze r))=(⟨[],o.dst,froze r,tA (bJ true id cx).2++[(d,some ⟨.var,n,[(bJ true id cx).1]⟩)]⟩:cQ).app τ.abs:=by
    intro τ
    rw[xj]
    have hm:(⟨[],o.dst,froze r,tA (bJ true id cx).2++[(d,some ⟨.var,n,[(bJ true id cx).1]⟩)]⟩:cQ).m τ.abs.m=av ((bJ true id cx).2++cg τ.bl d ⟨.var,n,[(bJ true id cx).1]⟩):=by
      funext k
      rw[fZ,ct]
      simp only[cQ.m,og,qC,eG,map_nil,St.abs]
      cases av (bJ true id cx).2 k with
      | some b=>rfl
      | none=>
        by_cases hk:d=k
        · subst hk;rw[beq_true];simp
        · rw[beq_false hk,if_neg hk];simp
    have hm2:(⟨[],o.dst,froze r,[]⟩:cQ).m (St.abs {τ with bl:=(bJ true id cx).2++cg τ.bl d ⟨.var,n,[(bJ true id cx).1]⟩}).m=av ((bJ true id cx).2++cg τ.bl d ⟨.var,n,[(bJ true id cx).1]⟩):=by
      funext k;simp only[cQ.m,eG,map_nil,St.abs]
    simp only[cQ.app,hm,hm2];rfl
  refine lE hg ⟨(⟨[],o.dst,froze r,tA (bJ true id cx).2++[(d,some ⟨.var,n,[(bJ true id cx).1]⟩)]⟩:cQ).comp E,⟨rfl,by simp only[cQ.comp,a2,abm],λk hk=>?_,λhp=>(by cases hp),λτ h3 h4=>?_⟩,?_⟩ h
  · have sT:k ∉ mR row:=λhh=>hk (abp _ hh)
    have HN:¬ d=k:=λhh=>hk (abe _ (by rw[<- hh];exact aa2 ..))
    have hk3:k ∉ vt (bJ true id cx).2:=λhh=>hk (abe _ (aaX _ hh))
    simp only[cQ.comp,og,qd,qC,eG,beq_false HN,cond_false,Aw hk3,ach]
    rw[a3 k sT];rfl
  · have hW:∀ k,k∈mR row++(d::vt (bJ true id cx).2)->av τ.bl k=av σ.bl k:=λk hk=>h4 k (abp _ hk)
    obtain⟨TC,b1,b2⟩:=a5 τ λk hk=>hW k (abp _ hk)
    have hsame:∀ k,av τ.bl k=av σ.bl k->av TC.bl k=av aR.bl k:=λk hk=>by
      rw[qe b2,qe a4];simp only[cQ.m];rw[hk]
    refine .inr (.inr (.inr (.inr (.inr (.inr (.inr (.inl ⟨g,d,rest,n,row,cs,TC,ki,cx,r,id,?_,jL,?_,b1,?_,?_,hl,?_,?_⟩)))))))
    · rw[qD h3,hc]
    · rw[hW d (abe _ (aa2 ..)),hb]
    · rw[hsame d (hW d (abe _ (aa2 ..))),gg]
    · rw[lN hvs λk hk=>h4 k (abe _ hk),hv];exact hX
    · rw[wH λk hk=>hsame k (hW k (abe _ (aaX _ hk)))];exact hf
    · show St.abs _=_
      rw[hset,oh a1,b2]
  · rw[hset,oh a1,a4]
end
end Go.Av

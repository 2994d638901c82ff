/- The abstract walk is sound: regions that draw their order. -/
import Derived.Test.YtjbokkoiicoahaaGreatDoorAvx
namespace Go.Av
open Go Go.RowKit
set_option linter.unusedVariables false
set_option linter.unusedSimpArgs false
section
variable {P : Program} {T : Tys} {X : Spec} {B : Ft} {W0 : World} {I0 : Ft} {σ σ' : St} {a : Act} {w w' : World} {o : Oper} {ops : Array Oper} {Q : Exit → Act → World → Prop}
def Only (T:Tys)(σ:St)(o:Oper)(σ':St):Prop:=
 ∃ v,σ'=σ.put o.dst v∧∀ σ2:St,σ2.bl=σ.bl→(∀ x∈o.op.operands,σ2.get x=σ.get x)→step T σ2 o=some (σ2.put o.dst v)
theorem step_pure (hp:pureOp o=true)(hs:step T σ o=some σ'):Only T σ o σ':=by
 obtain⟨dst,op,type,pos,after,guard⟩:=o
 cases op<;>simp only[pureOp] at hp<;>try (cases hp;done)
 case move x=>
  simp only[step,Option.some.injEq] at hs
  exact⟨_,hs.symm,fun σ2 hb hx=>by simp[step,hx x (by simp[Op.operands])]⟩
 case assign x=>
  simp only[step,Option.some.injEq] at hs
  exact⟨_,hs.symm,fun σ2 hb hx=>by simp[step,hx x (by simp[Op.operands])]⟩
 case extract x n=>
  simp only[step] at hs
  split at hs
  ·rename_i vs hv
   cases hn:nlt n vs.length with
   | false=>simp[hn] at hs
   | true=>
    simp only[hn,cond_true,Option.some.injEq] at hs
    exact⟨_,hs.symm,fun σ2 hb hx=>by simp only[step,hx x (by simp[Op.operands]),hv,hn,cond_true]⟩
  cases hs
 case pick c x y=>
  simp only[step] at hs
  split at hs
  ·rename_i t hc
   simp only[Option.some.injEq] at hs
   exact⟨_,hs.symm,fun σ2 hb hx=>by simp only[step,hx c (by simp[Op.operands]),hx x (by simp[Op.operands]),hx y (by simp[Op.operands]),hc]⟩
  cases hs
 case binOp bop t x y t'=>
  simp only[step] at hs
  split at hs
  ·rename_i v hv
   simp only[Option.some.injEq] at hs
   exact⟨_,hs.symm,fun σ2 hb hx=>by simp only[step,hx x (by simp[Op.operands]),hx y (by simp[Op.operands]),hv]⟩
  cases hs
 case unOp u t x=>
  cases u<;>simp only[step] at hs<;>try (cases hs;done)
  split at hs
  ·rename_i v hv
   simp only[Option.some.injEq] at hs
   exact⟨_,hs.symm,fun σ2 hb hx=>by simp only[step,hx x (by simp[Op.operands]),hv]⟩
  cases hs
 case fieldAddr s x f=>
  simp only[step,stFieldAddr] at hs
  split at hs
  case h_2=>cases hs
  rename_i fs _ _ _ hT
  split at hs
  case h_2=>cases hs
  rename_i off sz hf
  cases h0:nq sz 0 with
  | true=>simp[h0] at hs
  | false=>
   simp only[h0,cond_false] at hs
   split at hs
   ·rename_i d a j hv
    simp only[Option.some.injEq] at hs
    exact⟨_,hs.symm,fun σ2 hb hx=>by simp only[step,stFieldAddr,hT,hf,h0,cond_false,hx x (by simp[Op.operands]),hv]⟩
   ·rename_i cs hv
    simp only[Option.some.injEq] at hs
    exact⟨_,hs.symm,fun σ2 hb hx=>by simp only[step,stFieldAddr,hT,hf,h0,cond_false,hx x (by simp[Op.operands]),hv]⟩
   cases hs
 case indexAddr t x ix=>
  simp only[step,stIndexAddr] at hs
  split at hs
  case h_2=>cases hs
  rename_i e _ _ _ hT
  split at hs
  case h_2=>cases hs
  rename_i ie k n hTe hix
  split at hs
  ·rename_i d hv
   split at hs
   ·rename_i b hbl
    split at hs
    ·rename_i hc
     simp only[Option.some.injEq] at hs
     exact⟨_,hs.symm,fun σ2 hb hx=>by simp only[step,stIndexAddr,hT,hTe,hx x (by simp[Op.operands]),hx ix (by simp[Op.operands]),hix,hv,hb,hbl,hc]⟩
    cases hs
   cases hs
  ·rename_i sz rows hv
   split at hs
   ·rename_i hc
    split at hs
    ·rename_i r hr
     simp only[Option.some.injEq] at hs
     exact⟨_,hs.symm,fun σ2 hb hx=>by simp only[step,stIndexAddr,hT,hTe,hx x (by simp[Op.operands]),hx ix (by simp[Op.operands]),hix,hv,hc,hr]⟩
    cases hs
   cases hs
  cases hs
 case load t x=>
  simp only[step,stLoad] at hs
  split at hs
  case h_2=>cases hs
  rename_i i hT
  split at hs
  ·rename_i d ai j hv
   split at hs
   case h_2=>cases hs
   rename_i b hbl
   split at hs
   case h_2=>cases hs
   rename_i r hr
   split at hs
   case h_2=>cases hs
   rename_i v hl
   simp only[Option.some.injEq] at hs
   exact⟨_,hs.symm,fun σ2 hb hx=>by simp only[step,stLoad,hT,hx x (by simp[Op.operands]),hv,hb,hbl,hr,hl]⟩
  ·rename_i cs hv
   split at hs
   case h_2=>cases hs
   rename_i v hl
   simp only[Option.some.injEq] at hs
   exact⟨_,hs.symm,fun σ2 hb hx=>by simp only[step,stLoad,hT,hx x (by simp[Op.operands]),hv,hl]⟩
  cases hs
 case slice t x lo hi mx=>
  have hmx:mx=none:=by
   cases mx with
   | none=>rfl
   | some m=>cases hp
  subst hmx
  simp only[step,stSlice] at hs
  split at hs
  case h_2=>cases hs
  rename_i hT hnn
  split at hs
  case h_3=>cases hs
  case h_2=>
   rename_i hTe hx
   split at hs
   case h_2=>cases hs
   rename_i z hbd
   split at hs
   case h_2=>cases hs
   rename_i hz
   split at hs
   case h_2=>cases hs
   rename_i hc
   simp only[Option.some.injEq] at hs
   exact⟨_,hs.symm,fun σ2 hb ho=>by simp only[step,stSlice,hT,ho x (by simp[Op.operands]),hx,hTe,hb,hbd,ho z (by simp[Op.operands]),hz,hc]⟩
  rename_i hTe hx
  split at hs
  case h_2=>cases hs
  rename_i l m hlo hhi
  split at hs
  case h_2=>cases hs
  rename_i hc
  simp only[Option.some.injEq] at hs
  refine⟨_,hs.symm,fun σ2 hb ho=> ?_⟩
  have e1:boundOf σ2 0 lo=boundOf σ 0 lo:=by
   cases lo with
   | none=>rfl
   | some y=>simp only[boundOf,ho y (by simp[Op.operands])]
  have e2:∀ n,boundOf σ2 n hi=boundOf σ n hi:=by
   intro n
   cases hi with
   | none=>rfl
   | some y=>simp only[boundOf,ho y (by simp[Op.operands])]
  simp only[step,stSlice,hT,hTe,ho x (by simp[Op.operands]),hx,e1,e2,hlo,hhi,hc]
 case nilCheck x=>
  simp only[step] at hs
  split at hs
  ·rename_i d ai j hv
   simp only[Option.some.injEq] at hs
   exact⟨_,hs.symm,fun σ2 hb hx=>by simp only[step,hx x (by simp[Op.operands]),hv]⟩
  ·rename_i cs hv
   simp only[Option.some.injEq] at hs
   exact⟨_,hs.symm,fun σ2 hb hx=>by simp only[step,hx x (by simp[Op.operands]),hv]⟩
  cases hs
 case makeFunc f first caps=>
  cases f<;>simp only[step] at hs<;>try (cases hs;done)
  split at hs
  ·rename_i hf
   simp only[Option.some.injEq] at hs
   refine⟨_,hs.symm,fun σ2 hb hx=> ?_⟩
   have:caps.toList.map σ2.get=caps.toList.map σ.get:=List.map_congr_left fun x hm=>hx x (by simp[Op.operands];right;simpa using hm)
   simp only[step,hf,this]
  cases hs
 case call c=>
  obtain⟨callee,args,types⟩:=c
  simp only at hp
  split at hp
  case h_2=>cases hp
  simp only[step] at hs
  split at hs
  ·rename_i x t _ hargs hty
   have h1:args=#[x]:=by apply Array.ext';simpa using hargs
   have h2:types=#[t]:=by apply Array.ext';simpa using hty
   subst h1;subst h2
   simp only[stLen] at hs
   have hop:x∈(Op.call {callee:=.builtin .len,args:=#[x],argTypes:=#[t]}).operands:=by simp[Op.operands,Call.operands]
   split at hs
   ·rename_i hT
    split at hs
    ·rename_i d hv
     split at hs
     ·rename_i hbl
      simp only[Option.some.injEq] at hs
      exact⟨_,hs.symm,fun σ2 hb hx=>by simp[step,stLen,hT,hx x hop,hv,hb,hbl]⟩
     ·rename_i hbl
      simp only[Option.some.injEq] at hs
      exact⟨_,hs.symm,fun σ2 hb hx=>by simp[step,stLen,hT,hx x hop,hv,hb,hbl]⟩
     cases hs
    ·rename_i hv
     simp only[Option.some.injEq] at hs
     exact⟨_,hs.symm,fun σ2 hb hx=>by simp[step,stLen,hT,hx x hop,hv]⟩
    ·rename_i hv
     simp only[Option.some.injEq] at hs
     exact⟨_,hs.symm,fun σ2 hb hx=>by simp[step,stLen,hT,hx x hop,hv]⟩
    cases hs
   ·rename_i hT
    split at hs
    ·rename_i hv
     simp only[Option.some.injEq] at hs
     exact⟨_,hs.symm,fun σ2 hb hx=>by simp[step,stLen,hT,hx x hop,hv]⟩
    cases hs
   cases hs
  ·rename_i h _ _;cases h
  cases hs
def putW (S:Nat→Bool):List (Option Tmp × PV)→St→St
 | [],σ=>σ
 | (d,v)::l,σ=>putW (fun j=>S (j+1)) l (bif S 0 then σ.put d v else σ)
theorem put_bl (σ:St)(d:Option Tmp)(v:PV):(σ.put d v).bl=σ.bl:=by cases d<;>rfl
theorem put_len (σ:St)(d:Option Tmp)(v:PV):(σ.put d v).sl.length=σ.sl.length:=by
 cases d
 ·rfl
 exact setL_length _ _ _
theorem putW_bl :∀(S:Nat→Bool) (l:List (Option Tmp × PV)) (σ:St),(putW S l σ).bl=σ.bl
 | _,[],_=>rfl
 | S,(d,v)::l,σ=>by
  rw[putW,putW_bl]
  cases S 0
  ·rfl
  exact put_bl _ _ _
theorem getL_setL :∀(l:List PV) (d t:Nat) (v:PV),getL (setL l d v) t=if d=t∧t < l.length then v else getL l t
 | [],d,t,v=>by simp[setL]
 | c::l,0,0,v=>by simp[setL,getL]
 | c::l,0,t+1,v=>by simp[setL,getL]
 | c::l,d+1,0,v=>by simp[setL,getL]
 | c::l,d+1,t+1,v=>by simp[setL,getL,getL_setL l d t v]
theorem getL_put (σ:St)(d:Option Tmp)(v:PV)(t:Nat):getL (σ.put d v).sl t=if d=some t∧t < σ.sl.length then v else getL σ.sl t:=by
 cases d with
 | none=>simp[St.put]
 | some d=>simp[St.put,getL_setL]
theorem putW_get {t:Nat}:∀(l:List (Option Tmp × PV)) (S S':Nat→Bool) (σ σ':St),(∀(i:Nat) (d:Option Tmp) (v:PV),l[i]? =some (d,v)→d=some t→S i=S' i)→σ.sl.length=σ'.sl.length→getL σ.sl t=getL σ'.sl t→
  getL (putW S l σ).sl t=getL (putW S' l σ').sl t
 | [],S,S',σ,σ',_,_,h=>h
 | (d,v)::l,S,S',σ,σ',hS,hlen,h=>by
  rw[putW,putW]
  refine putW_get l _ _ _ _ (fun i d' v' hi hd=>hS (i+1) d' v' (by simpa using hi) hd) ?_ ?_
  ·cases S 0<;>cases S' 0<;>simp[put_len,hlen]
  by_cases hd:d=some t
  ·have h0:=hS 0 d v (by simp) hd
   rw[← h0]
   cases S 0
   ·exact h
   simp only[cond_true,getL_put,hlen,h]
  have e:∀(b:Bool) (τ:St),getL (bif b then τ.put d v else τ).sl t=getL τ.sl t:=by
   intro b τ
   cases b
   ·rfl
   ·simp [getL_put,hd]
  rw[e,e,h]
theorem put_comm' (σ:St){d d':Option Tmp}(v v':PV)(h:∀ t,d=some t→d'≠some t):(σ.put d v).put d' v'=(σ.put d' v').put d v:=by
 cases d with
 | none=>rfl
 | some d=>
  cases d' with
  | none=>rfl
  | some e=>
   have hne:d≠e:=fun he=>h d rfl (by rw[he])
   simp only[St.put,setL_eq]
   rw[List.set_comm _ _ hne]
theorem putW_comm {d:Option Tmp}{v:PV}:∀(l:List (Option Tmp × PV)) (S:Nat→Bool) (σ:St),(∀(i:Nat) (d':Option Tmp) (v':PV),l[i]? =some (d',v')→S i=true→∀ t,d=some t→d'≠some t)→
  putW S l (σ.put d v)=(putW S l σ).put d v
 | [],_,_,_=>rfl
 | (e,u)::l,S,σ,h=>by
  rw[putW,putW]
  have ih:=fun τ=>putW_comm (d:=d) (v:=v) l (fun j=>S (j+1)) τ (fun i d' v' hi hs=>h (i+1) d' v' (by simpa using hi) hs)
  cases hS:S 0
  ·exact ih σ
  simp only[cond_true]
  rw[put_comm' σ v u (h 0 e u (by simp) hS)]
  exact ih _
theorem putW_congr :∀(l:List (Option Tmp × PV)) (S S':Nat→Bool) (σ:St),(∀ i,i < l.length→S i=S' i)→putW S l σ=putW S' l σ
 | [],_,_,_,_=>rfl
 | (d,v)::l,S,S',σ,h=>by
  rw[putW,putW,h 0 (by simp)]
  exact putW_congr l _ _ _ fun i hi=>h (i+1) (by simpa using hi)
theorem putW_insert {d:Option Tmp}{v:PV}:∀(l:List (Option Tmp × PV)) (i:Nat) (S S':Nat→Bool) (σ:St),l[i]? =some (d,v)→S i=false→S' i=true→(∀ j,j≠i→S' j=S j)→
  (∀(j:Nat) (d':Option Tmp) (v':PV),i < j→l[j]? =some (d',v')→S j=true→∀ t,d=some t→d'≠some t)→putW S' l σ=(putW S l σ).put d v
 | [],i,_,_,_,h,_,_,_,_=>by simp at h
 | (e,u)::l,0,S,S',σ,h,h0,h1,hS,hj=>by
  simp at h
  obtain⟨rfl,rfl⟩:=h
  rw[putW,putW,h0,h1]
  simp only[cond_true,cond_false]
  rw[putW_congr l (fun j=>S' (j+1)) (fun j=>S (j+1)) _ fun i _=>hS (i+1) (by omega)]
  exact putW_comm l _ σ fun i d' v' hi hs=>hj (i+1) d' v' (by omega) (by simpa using hi) hs
 | (e,u)::l,i+1,S,S',σ,h,h0,h1,hS,hj=>by
  rw[putW,putW,hS 0 (by omega)]
  exact putW_insert l i _ _ _ (by simpa using h) h0 h1 (fun j hj'=>hS (j+1) (by omega)) fun j d' v' hij hl hs=>hj (j+1) d' v' (by omega) (by simpa using hl) hs
def Acts (T:Tys)(X:Spec)(σ:St)(o:Oper)(v:PV):Prop:=
 (∃ g args d,callOf σ o=some (g,args)∧o.dst=some d∧∃ r,X g (viewS σ.bl args) r∧(fresh r∨noHL args=true)∧v=froze r)∨
 (pureOp o=true∧∀ σ2:St,σ2.bl=σ.bl→(∀ x∈o.op.operands,σ2.get x=σ.get x)→step T σ2 o=some (σ2.put o.dst v))
def Does (T:Tys)(X:Spec)(all:List Oper)(σ:St)(o:Oper)(v:PV):Prop:=
 (o.guard=none∧Acts T X σ o v)∨∃ j want t,o.guard=some (j,want)∧dstOf all j=some t∧((∃ b,getL σ.sl t=.bool b∧((b=want∧Acts T X σ o v)∨(b=(!want)∧v=.tup [])))∨(getL σ.sl t=.tup []∧v=.tup []))
theorem pure_noCall (h:pureOp o=true):callOf σ o=none:=by
 unfold callOf
 obtain⟨dst,op,type,pos,after,guard⟩:=o
 cases op<;>simp only[pureOp] at h ⊢
 rename_i c
 cases hc:c.callee<;>rw[hc] at h<;>first | rfl | cases h
theorem callOf_congr {σ2:St}(h:∀ x∈o.op.operands,σ2.get x=σ.get x):callOf σ2 o=callOf σ o:=by
 unfold callOf
 split
 ·rename_i c hop
  rw[hop] at h
  split
  ·rename_i f hc
   have hf:σ2.get f=σ.get f:=h f (by simp[Op.operands,Call.operands,hc])
   have hm:c.args.toList.map σ2.get=c.args.toList.map σ.get:=List.map_congr_left fun x hx=>h x (by simp[Op.operands,Call.operands,hc];right;simpa using hx)
   rw[hf,hm]
  rfl
 rfl
theorem Acts.congr {σ2:St}{v:PV}(hb:σ2.bl=σ.bl)(h:∀ x∈o.op.operands,σ2.get x=σ.get x)(ha:Acts T X σ o v):Acts T X σ2 o v:=by
 rcases ha with ⟨g,args,d,h1,h2,r,h3,h4,h5⟩ | ⟨h1,h2⟩
 ·exact .inl ⟨g,args,d,by rw[callOf_congr h];exact h1,h2,r,by rw[hb];exact h3,h4,h5⟩
 exact .inr ⟨h1,fun σ3 hb3 h3=>h2 σ3 (hb3.trans hb) fun x hx=>(h3 x hx).trans (h x hx)⟩
theorem Does.congr {σ2:St}{v:PV}(hb:σ2.bl=σ.bl)(h:∀ t∈o.looksAt ops,getL σ2.sl t=getL σ.sl t)(ha:Does T X ops.toList σ o v):Does T X ops.toList σ2 o v:=by
 have ho:∀ x∈o.op.operands,σ2.get x=σ.get x:=by
  intro x hx
  cases x with
  | tmp t=>exact h t (List.mem_append_left _ (List.mem_filterMap.2 ⟨.tmp t,by simpa using hx,rfl⟩))
  | const v=>rfl
  | global g=>rfl
  | func f=>rfl
 rcases ha with ⟨h1,h2⟩ | ⟨j,want,t,h1,h2,h3⟩
 ·exact .inl ⟨h1,h2.congr hb ho⟩
 have ht:getL σ2.sl t=getL σ.sl t:=by
  refine h t ?_
  have:=dstOf_spec _ _ _ h2
  rw[Array.getElem?_toList] at this
  exact List.mem_append_right _ (by simp only[h1,this];exact List.mem_singleton.2 rfl)
 refine .inr ⟨j,want,t,h1,h2,?_⟩
 rw[ht]
 exact h3.imp (fun⟨b,h4,h5⟩=>⟨b,h4,h5.imp (fun h=>⟨h.1,h.2.congr hb ho⟩) id⟩) id
theorem Acts.aop {v:PV}(ha:Acts T X σ o v):aop T X o (fun σ'=>σ'=σ.put o.dst v) σ:=by
 rcases ha with ⟨g,args,d,h1,h2,r,h3,h4,rfl⟩ | ⟨h1,h2⟩
 ·refine .inl ?_
  unfold Av.aop0
  rw[h1,h2]
  exact⟨r,h3,h4,.inr rfl⟩
 refine .inl ?_
 unfold Av.aop0
 rw[pure_noCall h1]
 have:=h2 σ rfl fun _ _=>rfl
 simp only[this]
theorem Does.gop {v:PV}(ha:Does T X ops.toList σ o v):gop ops.toList o (Av.aop T X o (fun σ'=>σ'=σ.put o.dst v)) (fun σ'=>σ'=σ.put o.dst v) σ:=by
 unfold Av.gop
 rcases ha with ⟨h1,h2⟩ | ⟨j,want,t,h1,h2,⟨b,h3,h4⟩ | ⟨h3,rfl⟩⟩
 ·rw [h1];exact h2.aop
 case inr.inr=>rw[h1];simp only[h2,h3]
 rw[h1]
 simp only[h2,h3]
 rcases h4 with ⟨h4,h5⟩ | ⟨h4,h5⟩
 ·exact⟨fun _=>h5.aop,fun h=>by rw[h4] at h;cases want<;>cases h⟩
 exact⟨fun h=>(by rw[h4] at h;cases want<;>cases h),fun _=>(by rw[h5])⟩
theorem dop_acts {K:St→Prop}(h:dop T X o K σ):∃ v,Acts T X σ o v∧K (σ.put o.dst v):=by
 unfold dop at h
 split at h
 ·rename_i g args d hc hd
  obtain⟨r,h1,h2,h3⟩:=h
  exact⟨froze r,.inl ⟨g,args,d,hc,hd,r,h1,h2,rfl⟩,by rw[hd];exact h3⟩
 split at h
 ·rename_i σ' hp hs
  obtain⟨v,rfl,h2⟩:=step_pure hp hs
  exact⟨v,.inr ⟨hp,h2⟩,h⟩
 exact h.elim
theorem dops_vals (all:List Oper){K:St→Prop}:∀(l:List Oper) (σ:St),dops T X all l K σ→
  ∃ vs:List (Option Tmp × PV),vs.length=l.length∧K (putW (fun _=>true) vs σ)∧∀ i o,l[i]? =some o→∃ v,vs[i]? =some (o.dst,v)∧Does T X all (putW (fun j=>decide (j < i)) vs σ) o v
 | [],σ,h=>⟨[],rfl,h,fun i o hi=>by simp at hi⟩
 | o::l,σ,h=>by
  have one:∀ v,Does T X all σ o v→dops T X all l K (σ.put o.dst v)→
    ∃ vs:List (Option Tmp × PV),vs.length=(o::l).length∧K (putW (fun _=>true) vs σ)∧∀ i o',(o::l)[i]? =some o'→∃ v,vs[i]? =some (o'.dst,v)∧Does T X all (putW (fun j=>decide (j < i)) vs σ) o' v:=by
   intro v hv hrest
   obtain⟨vs,h1,h2,h3⟩:=dops_vals all l _ hrest
   refine⟨(o.dst,v)::vs,by simp[h1],h2,fun i o' hi=> ?_⟩
   cases i with
   | zero=>
    simp at hi
    subst hi
    refine⟨v,rfl,?_⟩
    have:putW (fun j=>decide (j < 0)) ((o.dst,v)::vs) σ=σ:=by
     have:∀(l:List (Option Tmp × PV)) (τ:St),putW (fun j=>decide (j < 0)) l τ=τ:=by
      intro l
      induction l with
      | nil=>intro τ;rfl
      | cons p l ih=>intro τ;obtain⟨d,u⟩:=p;rw[putW];simpa using ih τ
     exact this _ _
    rw[this];exact hv
   | succ i=>
    obtain⟨u,hu,hd⟩:=h3 i o' (by simpa using hi)
    refine⟨u,by simpa using hu,?_⟩
    rw[putW]
    simpa using hd
  simp only[dops] at h
  split at h
  ·rename_i hg
   obtain⟨v,hv,hr⟩:=dop_acts h
   exact one v (.inl ⟨hg,hv⟩) hr
  rename_i j want hg
  split at h
  case h_2=>exact h.elim
  rename_i t ht
  split at h
  case h_3=>exact h.elim
  case h_2 hb=>exact one (.tup []) (.inr ⟨j,want,t,hg,ht,.inr ⟨hb,rfl⟩⟩) h
  rename_i b hb
  by_cases hbw:b=want
  ·obtain⟨v,hv,hr⟩:=dop_acts (h.1 hbw)
   exact one v (.inr ⟨j,want,t,hg,ht,.inl ⟨b,hb,.inl ⟨hbw,hv⟩⟩⟩) hr
  have hbw':b=(!want):=by cases b<;>cases want<;>simp_all
  exact one (.tup []) (.inr ⟨j,want,t,hg,ht,.inl ⟨b,hb,.inr ⟨hbw',rfl⟩⟩⟩) (h.2 hbw')
def lst (listed:Array Bool)(i:Nat):Bool:=listed.getD i false
def Closed (ops:Array Oper)(listed:Array Bool):Prop:=∀(i:Nat) (o:Oper),ops[i]? =some o→lst listed i=true→∀ e∈o.after,bindsAny e=true→lst listed e.on=true
theorem binds_any {md:Region.Mode}{e:Edge}(h:bindsAny e=true):Region.binds md e=true:=by
 obtain⟨on,g⟩:=e
 cases g<;>simp only[bindsAny] at h<;>first | rfl | cases h
theorem aheadE_spec {go:Nat→Bool}{j:Nat}:∀(l:List Edge),aheadE go j l=true→∃ e,e∈l∧bindsAny e=true∧(nq e.on j=true∨go e.on=true)
 | [],h=>by cases h
 | e::l,h=>by
  simp only[aheadE] at h
  split at h
  ·rename_i hb
   split at h
   ·rename_i h1;exact⟨e,by simp,hb,.inl h1⟩
   split at h
   ·rename_i h2;exact⟨e,by simp,hb,.inr h2⟩
   obtain⟨e',he,h1,h2⟩:=aheadE_spec l h;exact⟨e',by simp[he],h1,h2⟩
  obtain⟨e',he,h1,h2⟩:=aheadE_spec l h;exact⟨e',by simp[he],h1,h2⟩
theorem ahead_listed {listed:Array Bool}(hc:Closed ops listed):∀(k i j:Nat),ahead ops k i j=true→(lst listed i=true∨∃ o,ops[i]? =some o∧∀ e∈o.after,bindsAny e=true→lst listed e.on=true)→lst listed j=true
 | 0,i,j,h,_=>by cases h
 | k+1,i,j,h,hi=>by
  simp only[ahead] at h
  cases ho:ops[i]? with
  | none=>rw[ho] at h;cases h
  | some o=>
   rw[ho] at h
   obtain⟨e,he,hb,h2⟩:=aheadE_spec _ h
   have hon:lst listed e.on=true:=by
    rcases hi with hi | ⟨o',ho',hi⟩
    ·exact hc i o ho hi e (by simpa using he) hb
    rw[ho] at ho';cases ho';exact hi e (by simpa using he) hb
   rcases h2 with h2 | h2
   ·rw [← nq_eq h2];exact hon
   exact ahead_listed hc k e.on j h2 (.inl hon)
theorem okPairs_spec (h:okPairs ops=true){i:Nat}{y:Oper}(hi:ops[i]? =some y):∀ j x,j < i→ops[j]? =some x→ahead ops ops.size i j=true∨x.apart ops y=true:=by
 have hlt:i < ops.size:=(Array.getElem?_eq_some_iff.1 hi).1
 simp only[okPairs,List.all_eq_true,List.mem_range] at h
 have h1:=h i hlt
 rw[hi] at h1
 simp only[List.all_eq_true,List.mem_range] at h1
 intro j x hj hx
 have h2:=h1 j hj
 rw[hx] at h2
 simp only at h2
 split at h2
 ·rename_i h3;exact .inr h3
 exact .inl h2
theorem okDraw_spec {rk:List Nat}(h:okDraw rk ops=true){i:Nat}{y:Oper}(hi:ops[i]? =some y):∀ j x,j < i→ops[j]? =some x→ahead ops ops.size i j=true∨x.apart ops y=true:=by
 unfold okDraw at h
 simp only[Bool.and_eq_true] at h
 exact okPairs_spec h.2 hi
def unl (ops:Array Oper)(listed:Array Bool):Nat:=(List.range ops.size).countP fun i=> !lst listed i
theorem countP_less {α:Type}{p q:α→Bool}{x:α}(hpq:∀ y,q y=true→p y=true)(hp:p x=true)(hq:q x=false):∀(l:List α),x∈l→l.countP q < l.countP p
 | [],h=>by simp at h
 | y::l,h=>by
  have hle:∀ m:List α,m.countP q≤m.countP p:=fun m=>List.countP_mono_left fun z _=>hpq z
  rw[List.countP_cons,List.countP_cons]
  by_cases hxy:y=x
  ·subst hxy
   have:=hle l
   simp[hp,hq]
   omega
  have hm:x∈l:=by simpa [Ne.symm hxy] using h
  have ih:=countP_less hpq hp hq l hm
  have:(if q y=true then 1 else 0)≤(if p y=true then 1 else 0):=by
   by_cases hy:q y=true
   ·rw [if_pos hy,if_pos (hpq y hy)];exact Nat.le_refl _
   rw[if_neg hy];exact Nat.zero_le _
  omega
theorem lst_set {listed:Array Bool}{i:Nat}(hi:i < listed.size)(j:Nat):lst (listed.setIfInBounds i true) j=if j=i then true else lst listed j:=by
 unfold lst
 by_cases h:j=i
 ·subst h;simp[hi]
 rw[if_neg h,getD_set_ne false (Ne.symm h)]
def rkf (md:Region.Mode)(rk:List Nat)(i:Nat):Nat:=match md with | .gc=>nthN rk i | _=>i
theorem okEdges_spec {rk:List Nat}(h:okEdges rk ops=true){i:Nat}{y:Oper}(hi:ops[i]? =some y)(md:Region.Mode):∀ e∈y.after,Region.binds md e=true→e.on < ops.size∧rkf md rk e.on < rkf md rk i:=by
 unfold okEdges at h
 rw[List.all_eq_true] at h
 have hlt:i < ops.size:=(Array.getElem?_eq_some_iff.1 hi).1
 have:=h i (by simpa using hlt)
 rw[hi] at this
 simp only[List.all_eq_true] at this
 intro e he hb
 have h1:=this e (by simpa using he)
 obtain⟨on,g⟩:=e
 cases g<;>cases md<;>simp[okEdge,Region.binds,rkf,nlt] at h1 hb ⊢<;>omega
theorem all_listedE {md:Region.Mode}{listed:Array Bool}{rk:List Nat}(hsz:listed.size=ops.size)(hok:okEdges rk ops=true)(hr:Region.ready md ops listed=[]):∀(n i:Nat),rkf md rk i < n→i < ops.size→lst listed i=true
 | 0,i,h,_=>by omega
 | n+1,i,h,hi=>by
  have hprev:=fun j (hj:rkf md rk j < rkf md rk i) (hs:j < ops.size)=>all_listedE hsz hok hr n j (by omega) hs
  cases hl:lst listed i with
  | true=>rfl
  | false=>
   have:i∈Region.ready md ops listed:=by
    rw[mem_ready]
    refine⟨?_,ops[i],by simp[hi],fun e he hb=> ?_⟩
    ·unfold lst at hl
     have hi':i < listed.size:=by omega
     simpa [hi'] using hl
    have h2:=okEdges_spec hok (i:=i) (y:=ops[i]) (by simp[hi]) md e he hb
    exact hprev e.on h2.2 h2.1
   rw[hr] at this
   cases this
theorem any_sound (hT:TyOk P T)(hX:AllReal P X B W0){md:Region.Mode}{rk:List Nat}(hok:okDraw rk ops=true){vs:List (Option Tmp × PV)}{σ0:St}(hlen:vs.length=ops.toList.length)
    (hdo:∀ i o,ops[i]? =some o→∃ v,vs[i]? =some (o.dst,v)∧Does T X ops.toList (putW (fun j=>decide (j < i)) vs σ0) o v)
    (hk:∀ a w,SimE B W0 I0 (putW (fun _=>true) vs σ0) a w→Q .normal a w):
    ∀(fuel:Nat) (listed:Array Bool) (a:Act) (w:World),listed.size=ops.size→unl ops listed≤fuel→Closed ops listed→SimE B W0 I0 (putW (lst listed) vs σ0) a w→wpAny P md ops Q fuel listed a w:=by
  have done:∀(listed:Array Bool) (a:Act) (w:World),(∀ i,i < ops.size→lst listed i=true)→SimE B W0 I0 (putW (lst listed) vs σ0) a w→Q .normal a w:=by
    intro listed a w hall h
    refine hk a w ?_
    rw[putW_congr vs (fun _=>true) (lst listed) σ0 fun i hi=>(hall i (by rw[hlen] at hi;simpa using hi)).symm]
    exact h
  intro fuel
  induction fuel with
  | zero=>
    intro listed a w hsz hu hc h
    have hall:∀ i,i < ops.size→lst listed i=true:=by
      intro i hi
      cases hl:lst listed i with
      | true=>rfl
      | false=>
        have h0:unl ops listed=0:=Nat.le_zero.1 hu
        unfold unl at h0
        rw[List.countP_eq_zero] at h0
        have:=h0 i (by simpa using hi)
        rw[hl] at this
        exact absurd rfl this
    refine⟨?_,done listed a w hall h⟩
    cases hr:Region.ready md ops listed with
    | nil=>rfl
    | cons i rs=>
      have hi:i∈Region.ready md ops listed:=by rw[hr];simp
      obtain⟨h1,o,ho,_⟩:=mem_ready.1 hi
      have hlt:i < ops.size:=(Array.getElem?_eq_some_iff.1 ho).1
      have:=hall i hlt
      unfold lst at this
      have hi':i < listed.size:=by omega
      simp[hi'] at h1 this
      rw[h1] at this;cases this
  | succ fuel ih=>
    intro listed a w hsz hu hc h
    refine⟨fun hr=>done listed a w (fun i hi=>all_listedE hsz (by unfold okDraw at hok;simp only[Bool.and_eq_true] at hok;exact hok.1) hr (rkf md rk i+1) i (by omega) hi) h,fun i hi=> ?_⟩
    obtain⟨h1,o,ho,hpre⟩:=mem_ready.1 hi
    have hlt:i < ops.size:=(Array.getElem?_eq_some_iff.1 ho).1
    have hi':i < listed.size:=by omega
    have hli:lst listed i=false:=by unfold lst;simpa [hi'] using h1
    have hpre':∀ e∈o.after,bindsAny e=true→lst listed e.on=true:=fun e he hb=>hpre e he (binds_any hb)
    obtain⟨v,hv,hd⟩:=hdo i o ho
    -- what the listed ones write is what those ahead of i in the text write,as far as i looks
    have hwr:∀(j:Nat) (d:Option Tmp) (u:PV),vs[j]? =some (d,u)→∃ x,ops[j]? =some x∧x.dst=d:=by
      intro j d u hj
      have hjl:j < vs.length:=(List.getElem?_eq_some_iff.1 hj).1
      have hjs:j < ops.size:=by rw[hlen] at hjl;simpa using hjl
      have hx:ops[j]? =some ops[j]:=by simp[hjs]
      obtain⟨u',hu',_⟩:=hdo j _ hx
      rw[hj] at hu'
      cases hu'
      exact⟨_,hx,rfl⟩
    have hlook:∀ t∈o.looksAt ops,getL (putW (lst listed) vs σ0).sl t=getL (putW (fun j=>decide (j < i)) vs σ0).sl t:=by
      intro t ht
      refine putW_get vs _ _ _ _ (fun j d u hj hdt=> ?_) rfl rfl
      obtain⟨x,hx,rfl⟩:=hwr j d u hj
      rcases Nat.lt_trichotomy j i with hji | hji | hji
      · rcases(okDraw_spec hok ho) j x hji hx with ha | ha
        · rw[ahead_listed hc _ i j ha (.inr ⟨o,ho,hpre'⟩)];simp[hji]
        · exact absurd ht ((Oper.apart_spec ha).1 t hdt)
      · subst hji;rw[hli];simp
      · have h0:decide (j < i)=false:=by simp;omega
        rw[h0]
        cases hlj:lst listed j with
        | false=>rfl
        | true=>
          rcases(okDraw_spec hok hx) i o hji ho with ha | ha
          · rw[ahead_listed hc _ j i ha (.inl hlj)] at hli;cases hli
          · exact absurd ht ((Oper.apart_spec ha).2.2 t hdt)
    have hd':Does T X ops.toList (putW (lst listed) vs σ0) o v:=hd.congr (by rw[putW_bl,putW_bl]) hlook
    refine wpOp_sound hT hX ho h (K:=fun σ'=>σ'=(putW (lst listed) vs σ0).put o.dst v) (fun σ' a' w' h' he=> ?_) hd'.gop
    subst he
    refine ih _ a' w' (by simpa using hsz) ?_ ?_ ?_
    · have:unl ops (listed.setIfInBounds i true) < unl ops listed:=by
        refine countP_less (x:=i) (fun j hj=> ?_) (by rw[hli];rfl) (by rw[lst_set hi',if_pos rfl];rfl) _ (by simpa using hlt)
        rw[lst_set hi'] at hj
        by_cases hji:j=i
        · rw[if_pos hji] at hj;cases hj
        · rw[if_neg hji] at hj;exact hj
      omega
    · intro j x hx hj e he hb
      rw[lst_set hi']
      by_cases hei:e.on=i
      · rw[if_pos hei]
      · rw[if_neg hei]
        rw[lst_set hi'] at hj
        by_cases hji:j=i
        · subst hji;rw[ho] at hx;cases hx;exact hpre' e he hb
        · rw[if_neg hji] at hj;exact hc j x hx hj e he hb
    · rw[putW_insert vs i (lst listed) (lst (listed.setIfInBounds i true)) σ0 hv hli (by rw[lst_set hi',if_pos rfl]) (fun j hj=>by rw[lst_set hi',if_neg hj]) ?_]
      · exact h'
      · intro j d' u hij hj hlj t hdt
        obtain⟨x,hx,rfl⟩:=hwr j d' u hj
        rcases(okDraw_spec hok hx) i o hij ho with ha | ha
        · rw[ahead_listed hc _ j i ha (.inl hlj)] at hli;cases hli
        · exact(Oper.apart_spec ha).2.1 t hdt
theorem SimE.drew (h:SimE B W0 I0 σ a w):SimE B W0 I0 σ a {w with drawn:=w.drawn+1}:=by
 obtain⟨I,val,fs,h⟩:=h
 exact⟨I,val,fs,h.grow ((Below.refl _ w).drew)⟩
theorem draw_sound (hT:TyOk P T)(hX:AllReal P X B W0){id:Nat}{rk:List Nat}(hok:okDraw rk ops=true){K:St→Prop}(hk:∀ σ' a' w',SimE B W0 I0 σ' a' w'→K σ'→Q .normal a' w')(h:SimE B W0 I0 σ a w)
  (ha:dops T X ops.toList ops.toList K σ):(Code.region id ops true).wp P Q a w:=by
 obtain⟨vs,hlen,hK,hdo⟩:=dops_vals _ _ _ ha
 have key:∀(md:Region.Mode) (t:Nat),wpOps P ops Q (Region.linearise md ops t) a {w with drawn:=w.drawn+1}:=by
  intro md t
  refine wpAny_sound ops.size t _ a _ ?_
  refine any_sound hT hX hok (vs:=vs) (σ0:=σ) hlen (fun i o hi=>hdo i o (by simpa using hi)) (fun a' w' h'=>hk _ a' w' h' hK) ops.size _ a _ (by simp) ?_ ?_ ?_
  ·unfold unl
   have:=List.countP_le_length (p:=fun i=> !lst (Array.replicate ops.size false) i) (l:=List.range ops.size)
   simpa using this
  ·intro i o hi hl
   have:lst (Array.replicate ops.size false) i=false:=by unfold lst;simp only[Array.getD_eq_getD_getElem?,Array.getElem?_replicate];split<;>rfl
   rw[this] at hl;cases hl
  have:putW (lst (Array.replicate ops.size false)) vs σ=σ:=by
   have:∀(l:List (Option Tmp × PV)) (τ:St),putW (fun _=>false) l τ=τ:=by
    intro l
    induction l with
    | nil=>intro τ;rfl
    | cons p l ih=>intro τ;obtain⟨d,u⟩:=p;rw[putW];simpa using ih τ
   have e:lst (Array.replicate ops.size false)=fun _=>false:=by
    funext i;unfold lst;simp only[Array.getD_eq_getD_getElem?,Array.getElem?_replicate];split<;>rfl
   rw[e];exact this _ _
  rw[this]
  exact h.drew
 refine wp_region_draw fun t=> ?_
 unfold Region.schedule
 split
 ·exact key _ _
 exact key _ _
theorem nthB_setT :∀(L:List Bool) (i j:Nat),i < L.length→nthB (setT L i) j=if j=i then true else nthB L j
 | b::l,0,0,_=>by simp[nthB,setT]
 | b::l,0,j+1,_=>by simp[nthB,setT]
 | b::l,i+1,0,_=>by simp[nthB,setT]
 | b::l,i+1,j+1,h=>by
  have:=nthB_setT l i j (by simpa using h)
  simp only[nthB,setT,this,Nat.add_right_cancel_iff]
theorem setT_len :∀(L:List Bool) (i:Nat),(setT L i).length=L.length
 | [],_=>rfl
 | b::l,0=>rfl
 | b::l,i+1=>by simp[setT,setT_len l i]
theorem cntF_setT :∀(L:List Bool) (i:Nat),i < L.length→nthB L i=false→cntF (setT L i)+1=cntF L
 | b::l,0,_,h=>by
  have:b=false:=h
  subst this;rfl
 | b::l,i+1,hi,h=>by
  have:=cntF_setT l i (by simpa using hi) h
  cases b<;>simp only[setT,cntF]<;>omega
theorem cntF_all :∀(L:List Bool),(∀ i,i < L.length→nthB L i=true)→cntF L=0
 | [],_=>rfl
 | b::l,h=>by
  have h0:b=true:=h 0 (by simp)
  subst h0
  exact cntF_all l fun i hi=>h (i+1) (by simpa using hi)
theorem cntF_zero :∀(L:List Bool),cntF L=0→∀ i,i < L.length→nthB L i=true
 | [],_,i,hi=>by simp at hi
 | true::l,h,0,_=>rfl
 | true::l,h,i+1,hi=>cntF_zero l h i (by simpa using hi)
 | false::l,h,i,hi=>by simp[cntF] at h
theorem falses_len :∀ n:Nat,(falses n).length=n
 | 0=>rfl
 | n+1=>by simp[falses,falses_len n]
theorem falses_nth :∀(n i:Nat),nthB (falses n) i=false
 | 0,_=>rfl
 | n+1,0=>rfl
 | n+1,i+1=>falses_nth n i
theorem falses_cnt :∀ n:Nat,cntF (falses n)=n
 | 0=>rfl
 | n+1=>by simp[falses,cntF,falses_cnt n]
theorem upto_mem :∀(n i j:Nat),i≤j→j < i+n→j∈upto i n
 | 0,i,j,h1,h2=>by omega
 | n+1,i,j,h1,h2=>by
  by_cases h:j=i
  ·subst h;simp[upto]
  simp only[upto,List.mem_cons];exact .inr (upto_mem n (i+1) j (by omega) (by omega))
theorem allRdy_mem {L:List Bool}{F:Nat→Oper→Prop}{i:Nat}(ho:rdyOp ops L i=some o):∀ l:List Nat,allRdy ops L F l→i∈l→F i o
 | j::l,h,hm=>by
  simp only[allRdy] at h
  rcases List.mem_cons.1 hm with rfl | hm
  ·rw [ho] at h;exact h.1
  split at h
  ·exact allRdy_mem ho l h.2 hm
  exact allRdy_mem ho l h hm
theorem anyE_sound (hT:TyOk P T)(hX:AllReal P X B W0){md:Region.Mode}{rk:List Nat}(hok:okEdges rk ops=true){K:St→Prop}(hk:∀ σ' a' w',SimE B W0 I0 σ' a' w'→K σ'→Q .normal a' w'):
    ∀(n fuel:Nat) (L:List Bool) (listed:Array Bool) (σ:St) (a:Act) (w:World),listed.size=ops.size→L.length=ops.size→(∀ i,i < ops.size→lst listed i=nthB L i)→cntF L=n→n≤fuel→SimE B W0 I0 σ a w→dwp T X ops K n L σ→wpAny P md ops Q fuel listed a w:=by
  intro n
  induction n with
  | zero=>
    intro fuel L listed σ a w hsz hL hl hc hf h hd
    obtain⟨tw,σ',ht,hK⟩:=hd
    have hq:Q .normal a w:=hk σ' a w (tweak_sound tw h ht) hK
    have hno:∀ i,i∈Region.ready md ops listed→False:=by
      intro i hi
      obtain⟨h1,o,ho,_⟩:=mem_ready.1 hi
      have hlt:i < ops.size:=(Array.getElem?_eq_some_iff.1 ho).1
      have hi':i < listed.size:=by omega
      have h2:=cntF_zero L hc i (by omega)
      rw[← hl i hlt] at h2
      unfold lst at h2
      simp[hi'] at h1 h2
      rw[h1] at h2;cases h2
    cases fuel with
    | zero=>
      refine⟨?_,hq⟩
      cases hr:Region.ready md ops listed with
      | nil=>rfl
      | cons i rs=>exact(hno i (by rw[hr];simp)).elim
    | succ fuel=>exact⟨fun _=>hq,fun i hi=>(hno i hi).elim⟩
  | succ n ih=>
    intro fuel L listed σ a w hsz hL hl hc hf h hd
    cases fuel with
    | zero=>omega
    | succ fuel=>
      obtain⟨tw,σ',ht,hall⟩:=hd
      have h':=tweak_sound tw h ht
      refine⟨fun hr=> ?_,fun i hi=> ?_⟩
      · have:=cntF_all L fun i hi=>by rw[← hl i (by omega)];exact all_listedE hsz hok hr (rkf md rk i+1) i (by omega) (by omega)
        omega
      · obtain⟨h1,o,ho,hpre⟩:=mem_ready.1 hi
        have hlt:i < ops.size:=(Array.getElem?_eq_some_iff.1 ho).1
        have hi':i < listed.size:=by omega
        have hli:lst listed i=false:=by unfold lst;simpa [hi'] using h1
        have hni:nthB L i=false:=by rw[← hl i hlt];exact hli
        have hrd:rdyOp ops L i=some o:=by
          have:(o.after.toList.all fun e=> !bindsAny e || nthB L e.on)=true:=by
            rw[List.all_eq_true]
            intro e he
            have he:e∈o.after:=by simpa using he
            cases hb:bindsAny e with
            | false=>rfl
            | true=>
              have h2:=hpre e he (binds_any hb)
              have h3:=(okEdges_spec hok ho md e he (binds_any hb)).1
              have h4:lst listed e.on=true:=h2
              rw[hl e.on (by omega)] at h4
              simp[h4]
          unfold rdyOp
          simp only[ho,hni,this,Bool.not_false,Bool.and_self]
        have hF:=allRdy_mem hrd _ hall (upto_mem ops.size 0 i (by omega) (by omega))
        have hF:aops T X ops.toList (o::[]) (dwp T X ops K n (setT L i)) σ':=hF
        rw[aops_cons] at hF
        refine wpOp_sound hT hX ho h' (K:=dwp T X ops K n (setT L i)) (fun σ2 a2 w2 h2 hd2=> ?_) hF
        refine ih fuel (setT L i) _ σ2 a2 w2 (by simpa using hsz) (by rw[setT_len];exact hL) (fun j hj=> ?_) ?_ (by omega) h2 hd2
        · rw[lst_set hi',nthB_setT L i j (by omega)]
          by_cases hji:j=i
          · rw[if_pos hji,if_pos hji]
          · rw[if_neg hji,if_neg hji];exact hl j hj
        · have:=cntF_setT L i (by omega) hni
          omega
theorem drawE_sound (hT:TyOk P T)(hX:AllReal P X B W0){id:Nat}{rk:List Nat}(hok:okEdges rk ops=true){K:St→Prop}(hk:∀ σ' a' w',SimE B W0 I0 σ' a' w'→K σ'→Q .normal a' w')(h:SimE B W0 I0 σ a w)
  (ha:dwp T X ops K ops.size (falses ops.size) σ):(Code.region id ops true).wp P Q a w:=by
 have key:∀(md:Region.Mode) (t:Nat),wpOps P ops Q (Region.linearise md ops t) a {w with drawn:=w.drawn+1}:=by
  intro md t
  refine wpAny_sound ops.size t _ a _ ?_
  refine anyE_sound hT hX hok hk ops.size ops.size (falses ops.size) _ σ a _ (by simp) (falses_len _) (fun i hi=> ?_) (falses_cnt _) (Nat.le_refl _) h.drew ha
  rw[falses_nth]
  unfold lst;simp only[Array.getD_eq_getD_getElem?,Array.getElem?_replicate];split<;>rfl
 refine wp_region_draw fun t=> ?_
 unfold Region.schedule
 split
 ·exact key _ _
 exact key _ _
end
end Go.Av

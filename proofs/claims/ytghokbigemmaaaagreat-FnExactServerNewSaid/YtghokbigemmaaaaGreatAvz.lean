/- Lemmas and walks for FnExactServerNew: what each function of the program and of the reference comes to. -/
import Derived.Test.YtghokbigemmaaaaGreatAvx
import Derived.LoopN
open Option renaming some→aaQ
open List renaming replicate→aa0,mem_cons→aa9,mem_singleton→aba,append_nil→abm,replicate_succ→abu,mem_map→abI,all_eq_true→acx
open Array renaming getElem?_eq_some_iff→abh,replicate→abR,ext'→acb,getD_eq_getD_getElem?→acm,getElem?_replicate→acB
namespace Go.Av
open Go Go.RowKit
set_option linter.unusedVariables false
set_option linter.unusedSimpArgs false
section
variable {P : Program} {T : dA} {X : Spec} {B : Ft} {W0 : World} {I0 : Ft} {σ aA : St} {a : Act} {w w' : World} {o : Oper} {ops : Array Oper} {Q : Exit -> Act -> World -> Prop}
def uv :PV->List Nat
 | .own d=>[d]
 | .pt d _ _=>[d]
 | _=>[]
theorem KS {bl qc:List (Nat × aO)}{v:PV}(h:∀ k∈uv v,av qc k=av bl k):rowsOf qc v=rowsOf bl v:=by
 cases v<;>first | rfl | skip
 rename_i d
 simp only[rowsOf,h d (by simp[uv])]
def aao (T:dA)(σ:St)(o:Oper)(aA:St):Prop:=
 ∃ v,aA=σ.put o.dst v/\∀ bo:St,(∀ x∈o.op.operands,∀ k∈uv (σ.get x),av bo.bl k=av σ.bl k)->(∀ x∈o.op.operands,bo.get x=σ.get x)->step T bo o=some (bo.put o.dst v)
theorem HK (hp:kp o=true)(hs:step T σ o=some aA):aao T σ o aA:=by
 obtain⟨dst,op,type,pos,after,guard⟩:=o
 cases op<;>simp only[kp] at hp<;>try (cases hp;done)
 case move x=>
  simp only[step,aaQ.injEq] at hs
  exact⟨_,hs.symm,λbo hb hx=>by simp[step,hx x (by simp[Op.operands])]⟩
 case assign x=>
  simp only[step,aaQ.injEq] at hs
  exact⟨_,hs.symm,λbo hb hx=>by simp[step,hx x (by simp[Op.operands])]⟩
 case extract x n=>
  simp only[step] at hs
  split at hs
  ·rename_i vs hv
   cases hn:rZ n vs.length with
   | false=>simp[hn] at hs
   | true=>
    simp only[hn,cond_true,aaQ.injEq] at hs
    exact⟨_,hs.symm,λbo hb hx=>by simp only[step,hx x (by simp[Op.operands]),hv,hn,cond_true]⟩
  cases hs
 case pick c x y=>
  simp only[step] at hs
  split at hs
  ·rename_i t hc
   simp only[aaQ.injEq] at hs
   exact⟨_,hs.symm,λbo hb hx=>by simp only[step,hx c (by simp[Op.operands]),hx x (by simp[Op.operands]),hx y (by simp[Op.operands]),hc]⟩
  cases hs
 case binOp bop t x y t'=>
  simp only[step] at hs
  split at hs
  ·rename_i v hv
   simp only[aaQ.injEq] at hs
   exact⟨_,hs.symm,λbo hb hx=>by simp only[step,hx x (by simp[Op.operands]),hx y (by simp[Op.operands]),hv]⟩
  cases hs
 case unOp u t x=>
  cases u<;>simp only[step] at hs<;>try (cases hs;done)
  split at hs
  ·rename_i v hv
   simp only[aaQ.injEq] at hs
   exact⟨_,hs.symm,λbo hb hx=>by simp only[step,hx x (by simp[Op.operands]),hv]⟩
  cases hs
 case fieldAddr s x f=>
  simp only[step,nt] at hs
  split at hs
  case h_2=>cases hs
  rename_i fs _ _ _ hT
  split at hs
  case h_2=>cases hs
  rename_i off sz hf
  cases h0:nq sz 0 with
  | true=>simp[h0] at hs
  | false=>
   simp only[h0,cond_false] at hs
   split at hs
   ·rename_i d a j hv
    simp only[aaQ.injEq] at hs
    exact⟨_,hs.symm,λbo hb hx=>by simp only[step,nt,hT,hf,h0,cond_false,hx x (by simp[Op.operands]),hv]⟩
   ·rename_i cs hv
    simp only[aaQ.injEq] at hs
    exact⟨_,hs.symm,λbo hb hx=>by simp only[step,nt,hT,hf,h0,cond_false,hx x (by simp[Op.operands]),hv]⟩
   cases hs
 case indexAddr t x ix=>
  simp only[step,jB] at hs
  split at hs
  case h_2=>cases hs
  rename_i e _ _ _ hT
  split at hs
  case h_2=>cases hs
  rename_i ie k n gQ hix
  split at hs
  ·rename_i d hv
   split at hs
   ·rename_i sz rows hbl
    split at hs
    ·rename_i r
     split at hs
     ·rename_i hc
      simp only[aaQ.injEq] at hs
      exact⟨_,hs.symm,λbo hb hx=>by simp only[step,jB,hT,gQ,hx x (by simp[Op.operands]),hx ix (by simp[Op.operands]),hix,hv,hb x (by simp[Op.operands]) d (by rw[hv];simp[uv]),hbl,hc]⟩
     cases hs
    cases hs
   ·rename_i b jL hbl
    split at hs
    ·rename_i hc
     simp only[aaQ.injEq] at hs
     exact⟨_,hs.symm,λbo hb hx=>by simp only[step,jB,hT,gQ,hx x (by simp[Op.operands]),hx ix (by simp[Op.operands]),hix,hv,hb x (by simp[Op.operands]) d (by rw[hv];simp[uv]),hbl,hc]⟩
    cases hs
   cases hs
  ·rename_i sz rows hv
   split at hs
   ·rename_i hc
    split at hs
    ·rename_i r hr
     simp only[aaQ.injEq] at hs
     exact⟨_,hs.symm,λbo hb hx=>by simp only[step,jB,hT,gQ,hx x (by simp[Op.operands]),hx ix (by simp[Op.operands]),hix,hv,hc,hr]⟩
    cases hs
   cases hs
  cases hs
 case load t x=>
  simp only[step,ua] at hs
  split at hs
  case h_2=>cases hs
  rename_i i hT
  split at hs
  ·rename_i d ai j hv
   split at hs
   case h_2=>cases hs
   rename_i b hbl
   split at hs
   case h_2=>cases hs
   rename_i r hr
   split at hs
   case h_2=>cases hs
   rename_i v hl
   simp only[aaQ.injEq] at hs
   exact⟨_,hs.symm,λbo hb hx=>by simp only[step,ua,hT,hx x (by simp[Op.operands]),hv,hb x (by simp[Op.operands]) d (by rw[hv];simp[uv]),hbl,hr,hl]⟩
  ·rename_i cs hv
   split at hs
   case h_2=>cases hs
   rename_i v hl
   simp only[aaQ.injEq] at hs
   exact⟨_,hs.symm,λbo hb hx=>by simp only[step,ua,hT,hx x (by simp[Op.operands]),hv,hl]⟩
  cases hs
 case slice t x lo hi mx=>
  have hmx:mx=none:=by
   cases mx with
   | none=>rfl
   | some m=>cases hp
  subst hmx
  simp only[step,pT] at hs
  split at hs
  case h_2=>cases hs
  rename_i hT hnn
  split at hs
  case h_3=>cases hs
  case h_2=>
   rename_i gQ hx
   split at hs
   case h_2=>cases hs
   rename_i z hbd
   split at hs
   case h_2=>cases hs
   rename_i hz
   split at hs
   case h_2=>cases hs
   rename_i hc
   simp only[aaQ.injEq] at hs
   exact⟨_,hs.symm,λbo hb ho=>by simp only[step,pT,hT,ho x (by simp[Op.operands]),hx,gQ,hb x (by simp[Op.operands]) _ (by rw[hx];exact aba.2 rfl),hbd,ho z (by simp[Op.operands]),hz,hc]⟩
  rename_i gQ hx
  split at hs
  case h_2=>cases hs
  rename_i l m hlo hhi
  split at hs
  case h_2=>cases hs
  rename_i hc
  simp only[aaQ.injEq] at hs
  refine⟨_,hs.symm,λbo hb ho=>?_⟩
  have e1:jr bo 0 lo=jr σ 0 lo:=by
   cases lo with
   | none=>rfl
   | some y=>simp only[jr,ho y (by simp[Op.operands])]
  have e2:∀ n,jr bo n hi=jr σ n hi:=by
   intro n
   cases hi with
   | none=>rfl
   | some y=>simp only[jr,ho y (by simp[Op.operands])]
  simp only[step,pT,hT,gQ,ho x (by simp[Op.operands]),hx,e1,e2,hlo,hhi,hc]
 case nilCheck x=>
  simp only[step] at hs
  split at hs
  ·rename_i d ai j hv
   simp only[aaQ.injEq] at hs
   exact⟨_,hs.symm,λbo hb hx=>by simp only[step,hx x (by simp[Op.operands]),hv]⟩
  ·rename_i cs hv
   simp only[aaQ.injEq] at hs
   exact⟨_,hs.symm,λbo hb hx=>by simp only[step,hx x (by simp[Op.operands]),hv]⟩
  cases hs
 case makeFunc f first caps=>
  cases f<;>simp only[step] at hs<;>try (cases hs;done)
  split at hs
  ·rename_i hf
   simp only[aaQ.injEq] at hs
   refine⟨_,hs.symm,λbo hb hx=>?_⟩
   have:caps.toList.map bo.get=caps.toList.map σ.get:=List.map_congr_left λx hm=>hx x (by simp[Op.operands];right;simpa using hm)
   simp only[step,hf,this]
  cases hs
 case build t ps=>
  simp only[step,xc] at hs
  split at hs
  case h_2=>cases hs
  rename_i fs fl one sz bt z hT
  split at hs
  case h_2=>cases hs
  rename_i l hl
  simp only[aaQ.injEq] at hs
  refine⟨_,hs.symm,λbo hb hx=>?_⟩
  have:∀(qs:List (Nat × Operand)) (l0:List PV),(∀ q∈qs,bo.get q.2=σ.get q.2)->sa fs bo l0 qs=sa fs σ l0 qs:=by
   intro qs
   induction qs with
   | nil=>intro l0 _;rfl
   | cons q qs ih=>
    intro l0 hq
    obtain⟨i,x⟩:=q
    simp only[sa,hq (i,x) (by simp)]
    split
    ·split
     ·exact ih _ λq hm=>hq q (by simp[hm])
     rfl
    rfl
  simp only[step,xc,hT,this ps.toList z (λq hm=>hx q.2 (by simp only[Op.operands];rw[List.mem_toArray];exact abI.2 ⟨q,hm,rfl⟩)),hl]
 case index t x ix=>
  simp only[step,tO] at hs
  split at hs
  ·rename_i hT hx hix
   split at hs
   ·rename_i hc
    simp only[aaQ.injEq] at hs
    exact⟨_,hs.symm,λbo hb ho=>by simp only[step,tO,hT,ho x (by simp[Op.operands]),ho ix (by simp[Op.operands]),hx,hix,hc]⟩
   cases hs
  cases hs
 case convert t t' x=>
  simp only[step,uc] at hs
  split at hs
  ·rename_i hT Qn
   split at hs
   ·rename_i hk hx
    simp only[aaQ.injEq] at hs
    refine⟨_,hs.symm,λbo hb ho=>?_⟩
    simp only[step,uc,hT,Qn,ho x (by simp[Op.operands]),hx]
   cases hs
  ·rename_i e _ _ _ _ _ _ hT Qn
   split at hs
   ·rename_i rows h8 hr
    cases hbb:sb rows with
    | false=>simp[hbb] at hs
    | true=>
     simp only[hbb,cond_true,aaQ.injEq] at hs
     refine⟨_,hs.symm,λbo hb ho=>?_⟩
     simp only[step,uc,hT,Qn,ho x (by simp[Op.operands]),KS (hb x (by simp[Op.operands])),h8,hr,hbb,cond_true]
   cases hs
  cases hs
 case call c=>
  obtain⟨callee,args,types⟩:=c
  simp only at hp
  split at hp
  case h_2=>cases hp
  simp only[step] at hs
  split at hs
  ·rename_i x t _ hargs hty
   have h1:args=#[x]:=by apply acb;simpa using hargs
   have h2:types=#[t]:=by apply acb;simpa using hty
   subst h1;subst h2
   simp only[qm] at hs
   have hop:x∈(Op.call {callee:=.builtin .len,args:=#[x],argTypes:=#[t]}).operands:=by simp[Op.operands,Call.operands]
   split at hs
   ·rename_i hT
    split at hs
    ·rename_i d hv
     split at hs
     ·rename_i hbl
      simp only[aaQ.injEq] at hs
      exact⟨_,hs.symm,λbo hb hx=>by simp[step,qm,hT,hx x hop,hv,hb x hop d (by rw[hv];simp[uv]),hbl]⟩
     ·rename_i hbl
      simp only[aaQ.injEq] at hs
      exact⟨_,hs.symm,λbo hb hx=>by simp[step,qm,hT,hx x hop,hv,hb x hop d (by rw[hv];simp[uv]),hbl]⟩
     ·rename_i hbl
      simp only[aaQ.injEq] at hs
      exact⟨_,hs.symm,λbo hb hx=>by simp[step,qm,hT,hx x hop,hv,hb x hop d (by rw[hv];simp[uv]),hbl]⟩
     cases hs
    ·rename_i hv
     simp only[aaQ.injEq] at hs
     exact⟨_,hs.symm,λbo hb hx=>by simp[step,qm,hT,hx x hop,hv]⟩
    ·rename_i hv
     simp only[aaQ.injEq] at hs
     exact⟨_,hs.symm,λbo hb hx=>by simp[step,qm,hT,hx x hop,hv]⟩
    cases hs
   ·rename_i hT
    split at hs
    ·rename_i hv
     simp only[aaQ.injEq] at hs
     exact⟨_,hs.symm,λbo hb hx=>by simp[step,qm,hT,hx x hop,hv]⟩
    cases hs
   cases hs
  ·rename_i h _ _;cases h
  cases hs
def fS (S:Nat->Bool):List (Option Tmp × PV)->St->St
 | [],σ=>σ
 | (d,v)::l,σ=>fS (λj=>S (j+1)) l (bif S 0 then σ.put d v else σ)
theorem V2 (σ:St)(d:Option Tmp)(v:PV):(σ.put d v).bl=σ.bl:=by cases d<;>rfl
theorem UJ (σ:St)(d:Option Tmp)(v:PV):(σ.put d v).sl.length=σ.sl.length:=by
 cases d
 ·rfl
 exact kK _ _ _
theorem Gr :∀(S:Nat->Bool) (l:List (Option Tmp × PV)) (σ:St),(fS S l σ).bl=σ.bl
 | _,[],_=>rfl
 | S,(d,v)::l,σ=>by
  rw[fS,Gr]
  cases S 0
  ·rfl
  exact V2 _ _ _
theorem Ao :∀(l:List PV) (d t:Nat) (v:PV),bM (bT l d v) t=if d=t/\t < l.length then v else bM l t
 | [],d,t,v=>by simp[bT]
 | c::l,0,0,v=>by simp[bT,bM]
 | c::l,0,t+1,v=>by simp[bT,bM]
 | c::l,d+1,0,v=>by simp[bT,bM]
 | c::l,d+1,t+1,v=>by simp[bT,bM,Ao l d t v]
theorem Dw (σ:St)(d:Option Tmp)(v:PV)(t:Nat):bM (σ.put d v).sl t=if d=some t/\t < σ.sl.length then v else bM σ.sl t:=by
 cases d with
 | none=>simp[St.put]
 | some d=>simp[St.put,Ao]
theorem KT {t:Nat}:∀(l:List (Option Tmp × PV)) (S S':Nat->Bool) (σ aA:St),(∀(i:Nat) (d:Option Tmp) (v:PV),l[i]? =some (d,v)->d=some t->S i=S' i)->σ.sl.length=aA.sl.length->bM σ.sl t=bM aA.sl t->
  bM (fS S l σ).sl t=bM (fS S' l aA).sl t
 | [],S,S',σ,aA,_,_,h=>h
 | (d,v)::l,S,S',σ,aA,hS,hlen,h=>by
  rw[fS,fS]
  refine KT l _ _ _ _ (λi d' v' hi hd=>hS (i+1) d' v' (by simpa using hi) hd) ?_ ?_
  ·cases S 0<;>cases S' 0<;>simp[UJ,hlen]
  by_cases hd:d=some t
  ·have h0:=hS 0 d v (by simp) hd
   rw[<- h0]
   cases S 0
   ·exact h
   simp only[cond_true,Dw,hlen,h]
  have e:∀(b:Bool) (τ:St),bM (bif b then τ.put d v else τ).sl t=bM τ.sl t:=by
   intro b τ
   cases b
   ·rfl
   ·simp [Dw,hd]
  rw[e,e,h]
theorem HD (σ:St){d d':Option Tmp}(v v':PV)(h:∀ t,d=some t->d'≠some t):(σ.put d v).put d' v'=(σ.put d' v').put d v:=by
 cases d with
 | none=>rfl
 | some d=>
  cases d' with
  | none=>rfl
  | some e=>
   have hne:d≠e:=λhe=>h d rfl (by rw[he])
   simp only[St.put,B1]
   rw[List.set_comm _ _ hne]
theorem Ih {d:Option Tmp}{v:PV}:∀(l:List (Option Tmp × PV)) (S:Nat->Bool) (σ:St),(∀(i:Nat) (d':Option Tmp) (v':PV),l[i]? =some (d',v')->S i=true->∀ t,d=some t->d'≠some t)->
  fS S l (σ.put d v)=(fS S l σ).put d v
 | [],_,_,_=>rfl
 | (e,u)::l,S,σ,h=>by
  rw[fS,fS]
  have ih:=λτ=>Ih (d:=d) (v:=v) l (λj=>S (j+1)) τ (λi d' v' hi hs=>h (i+1) d' v' (by simpa using hi) hs)
  cases hS:S 0
  ·exact ih σ
  simp only[cond_true]
  rw[HD σ v u (h 0 e u (by simp) hS)]
  exact ih _
theorem yE :∀(l:List (Option Tmp × PV)) (S S':Nat->Bool) (σ:St),(∀ i,i < l.length->S i=S' i)->fS S l σ=fS S' l σ
 | [],_,_,_,_=>rfl
 | (d,v)::l,S,S',σ,h=>by
  rw[fS,fS,h 0 (by simp)]
  exact yE l _ _ _ λi hi=>h (i+1) (by simpa using hi)
theorem CP {d:Option Tmp}{v:PV}:∀(l:List (Option Tmp × PV)) (i:Nat) (S S':Nat->Bool) (σ:St),l[i]? =some (d,v)->S i=false->S' i=true->(∀ j,j≠i->S' j=S j)->
  (∀(j:Nat) (d':Option Tmp) (v':PV),i < j->l[j]? =some (d',v')->S j=true->∀ t,d=some t->d'≠some t)->fS S' l σ=(fS S l σ).put d v
 | [],i,_,_,_,h,_,_,_,_=>by simp at h
 | (e,u)::l,0,S,S',σ,h,h0,h1,hS,hj=>by
  simp at h
  obtain⟨rfl,rfl⟩:=h
  rw[fS,fS,h0,h1]
  simp only[cond_true,cond_false]
  rw[yE l (λj=>S' (j+1)) (λj=>S (j+1)) _ λi _=>hS (i+1) (by omega)]
  exact Ih l _ σ λi d' v' hi hs=>hj (i+1) d' v' (by omega) (by simpa using hi) hs
 | (e,u)::l,i+1,S,S',σ,h,h0,h1,hS,hj=>by
  rw[fS,fS,hS 0 (by omega)]
  exact CP l i _ _ _ (by simpa using h) h0 h1 (λj hj'=>hS (j+1) (by omega)) λj d' v' hij hl hs=>hj (j+1) d' v' (by omega) (by simpa using hl) hs
theorem AL {bo:St}:∀(ps:List (Nat × Operand)) (i:Nat),(∀ q∈ps,bo.get q.2=σ.get q.2)->kR bo i ps=kR σ i ps
 | [],_,_=>rfl
 | (j,x)::ps,i,h=>by
  simp only[kR,h (j,x) (by simp),AL ps (i+1) (λq hq=>h q (by simp[hq]))]
theorem OJ {bo:St}{ie:TI}(len:Nat)(ps:List (Nat × Operand))(h:∀ q∈ps,bo.get q.2=σ.get q.2):De ie bo len ps=De ie σ len ps:=by
 have h1:=AL (σ:=σ) (bo:=bo) ps 0 h
 unfold De
 split
 ·rfl
 ·rename_i x
  rw[h (0,x) (by simp)]
 rw[h1]
theorem Ev (hp:BP o=true)(hs:eC T σ o=some aA):∃ v,aA=σ.put o.dst v/\∀ bo:St,(∀ x∈o.op.operands,bo.get x=σ.get x)->eC T bo o=some (bo.put o.dst v):=by
 obtain⟨dst,op,type,pos,after,guard⟩:=o
 unfold eC at hs
 split at hs
 ·rename_i x ho
  simp only at ho;subst ho
  split at hs
  ·rename_i k n hx
   simp only[aaQ.injEq] at hs
   exact⟨_,hs.symm,λbo h=>by simp only[eC,h x (by simp[Op.operands]),hx]⟩
  cases hs
 ·rename_i ho
  simp only at ho;subst ho
  cases hp
 ·rename_i t x lo hi ho
  simp only at ho;subst ho
  split at hs
  ·rename_i hT hx hl hh
   split at hs
   ·rename_i hc
    simp only[aaQ.injEq] at hs
    exact⟨_,hs.symm,λbo h=>by simp only[eC,h x (by simp[Op.operands]),h lo (by simp[Op.operands]),h hi (by simp[Op.operands]),hT,hx,hl,hh,hc]⟩
   cases hs
  cases hs
 ·rename_i t x hi ho
  simp only at ho;subst ho
  split at hs
  ·rename_i hT hx hh
   split at hs
   ·rename_i hc
    simp only[aaQ.injEq] at hs
    exact⟨_,hs.symm,λbo h=>by simp only[eC,h x (by simp[Op.operands]),h hi (by simp[Op.operands]),hT,hx,hh,hc]⟩
   cases hs
  cases hs
 ·rename_i t x lo ho
  simp only at ho;subst ho
  split at hs
  ·rename_i hT hx hl
   split at hs
   ·rename_i hc
    simp only[aaQ.injEq] at hs
    exact⟨_,hs.symm,λbo h=>by simp only[eC,h x (by simp[Op.operands]),h lo (by simp[Op.operands]),hT,hx,hl,hc]⟩
   cases hs
  cases hs
 ·rename_i c ho
  obtain⟨callee,args,types⟩:=c
  simp only at ho;subst ho
  simp only at hs
  split at hs
  ·rename_i x y hargs
   have h1:args=#[x,y]:=by apply acb;simpa using hargs
   subst h1
   split at hs
   ·rename_i hx hy
    simp only[aaQ.injEq] at hs
    exact⟨_,hs.symm,λbo h=>by simp only[eC,h x (by simp[Op.operands,Call.operands]),h y (by simp[Op.operands,Call.operands]),hx,hy]⟩
   cases hs
  ·rename_i x y hargs
   have h1:args=#[x,y]:=by apply acb;simpa using hargs
   subst h1
   split at hs
   ·rename_i hx hy
    simp only[aaQ.injEq] at hs
    exact⟨_,hs.symm,λbo h=>by simp only[eC,h x (by simp[Op.operands,Call.operands]),h y (by simp[Op.operands,Call.operands]),hx,hy]⟩
   cases hs
  cases hs
 ·rename_i x y t' ho
  simp only at ho;subst ho
  split at hs
  ·rename_i hx hy
   split at hs
   ·rename_i hc
    simp only[aaQ.injEq] at hs
    exact⟨_,hs.symm,λbo h=>by simp only[eC,h x (by simp[Op.operands]),h y (by simp[Op.operands]),hx,hy,hc]⟩
   cases hs
  cases hs
 ·rename_i x y t' ho
  simp only at ho;subst ho
  split at hs
  ·rename_i hx hy
   split at hs
   ·rename_i hc
    simp only[aaQ.injEq] at hs
    exact⟨_,hs.symm,λbo h=>by simp only[eC,h x (by simp[Op.operands]),h y (by simp[Op.operands]),hx,hy,hc]⟩
   cases hs
  cases hs
 ·rename_i t x f ho
  simp only at ho;subst ho
  split at hs
  ·rename_i hT hx
   split at hs
   ·rename_i iI vA
    split at hs
    ·rename_i c hc
     simp only[aaQ.injEq] at hs
     exact⟨_,hs.symm,λbo h=>by simp only[eC,h x (by simp[Op.operands]),hT,hx,iI,vA,hc]⟩
    cases hs
   cases hs
  cases hs
 cases hs
def AM (T:dA)(X:Spec)(σ:St)(o:Oper)(v:PV):Prop:=
 (∃ g args d,bZ σ o=some (g,args)/\o.dst=some d/\∃ r,X g (fD σ.bl args) r/\(fresh r\/iT args=true)/\v=froze r)\/
 (kp o=true/\∀ bo:St,bo.bl=σ.bl->(∀ x∈o.op.operands,bo.get x=σ.get x)->step T bo o=some (bo.put o.dst v))\/
 (∀ bo:St,bo.bl=σ.bl->(∀ x∈o.op.operands,bo.get x=σ.get x)->RP T o (λaA=>aA=bo.put o.dst v) bo\/JX T o (λaA=>aA=bo.put o.dst v) bo)
def wN (T:dA)(X:Spec)(all:List Oper)(σ:St)(o:Oper)(v:PV):Prop:=
 (o.guard=none/\AM T X σ o v)\/∃ j want t,o.guard=some (j,want)/\ji all j=some t/\((∃ b,bM σ.sl t=.bool b/\((b=want/\AM T X σ o v)\/(b=(!want)/\v=.aw [])))\/(bM σ.sl t=.aw []/\v=.aw []))
theorem CI (h:kp o=true):bZ σ o=none:=by
 unfold bZ
 obtain⟨dst,op,type,pos,after,guard⟩:=o
 cases op<;>simp only[kp] at h ⊢
 rename_i c
 cases hc:c.callee<;>rw[hc] at h<;>first | rfl | cases h
theorem qD {bo:St}(h:∀ x∈o.op.operands,bo.get x=σ.get x):bZ bo o=bZ σ o:=by
 unfold bZ
 split
 ·rename_i c hop
  rw[hop] at h
  split
  ·rename_i f hc
   have hf:bo.get f=σ.get f:=h f (by simp[Op.operands,Call.operands,hc])
   have hm:c.args.toList.map bo.get=c.args.toList.map σ.get:=List.map_congr_left λx hx=>h x (by simp[Op.operands,Call.operands,hc];right;simpa using hx)
   rw[hf,hm]
  rfl
 rfl
theorem AM.congr {bo:St}{v:PV}(hb:bo.bl=σ.bl)(h:∀ x∈o.op.operands,bo.get x=σ.get x)(ha:AM T X σ o v):AM T X bo o v:=by
 rcases ha with ⟨g,args,d,h1,h2,r,h3,h4,h5⟩ | ⟨h1,h2⟩ | h2
 ·exact .inl ⟨g,args,d,by rw[qD h];exact h1,h2,r,by rw[hb];exact h3,h4,h5⟩
 ·exact .inr (.inl ⟨h1,λmZ V3 h3=>h2 mZ (V3.trans hb) λx hx=>(h3 x hx).trans (h x hx)⟩)
 exact .inr (.inr λmZ V3 h3=>h2 mZ (V3.trans hb) λx hx=>(h3 x hx).trans (h x hx))
theorem wN.congr {bo:St}{v:PV}(hb:bo.bl=σ.bl)(h:∀ t∈o.looksAt ops,bM bo.sl t=bM σ.sl t)(ha:wN T X ops.toList σ o v):wN T X ops.toList bo o v:=by
 have ho:∀ x∈o.op.operands,bo.get x=σ.get x:=by
  intro x hx
  cases x with
  | tmp t=>exact h t (List.mem_append_left _ (List.mem_filterMap.2 ⟨.tmp t,by simpa using hx,rfl⟩))
  | const v=>rfl
  | global g=>rfl
  | func f=>rfl
 rcases ha with ⟨h1,h2⟩ | ⟨j,want,t,h1,h2,h3⟩
 ·exact .inl ⟨h1,h2.congr hb ho⟩
 have ht:bM bo.sl t=bM σ.sl t:=by
  refine h t ?_
  have:=qB _ _ _ h2
  rw[Array.getElem?_toList] at this
  exact List.mem_append_right _ (by simp only[h1,this];exact aba.2 rfl)
 refine .inr ⟨j,want,t,h1,h2,?_⟩
 rw[ht]
 exact h3.imp (fun⟨b,h4,h5⟩=>⟨b,h4,h5.imp (λh=>⟨h.1,h.2.congr hb ho⟩) id⟩) id
theorem AM.rh {v:PV}(ha:AM T X σ o v):rh T X o (λaA=>aA=σ.put o.dst v) σ:=by
 rcases ha with ⟨g,args,d,h1,h2,r,h3,h4,rfl⟩ | ⟨h1,h2⟩ | h2
 case inr.inr=>
  rcases h2 σ rfl (λ_ _=>rfl) with h3 | h3
  ·exact .inr (.inr (.inr (.inr (.inr (.inr (.inl h3))))))
  exact .inr (.inr (.inr (.inr (.inr (.inr (.inr (.inr h3)))))))
 ·refine .inl ?_
  unfold Av.nS
  rw[h1,h2]
  exact⟨r,h3,h4,.inr rfl⟩
 refine .inl ?_
 unfold Av.nS
 rw[CI h1]
 have:=h2 σ rfl λ_ _=>rfl
 simp only[this]
theorem wN.KQ {v:PV}(ha:wN T X ops.toList σ o v):KQ ops.toList o (Av.rh T X o (λaA=>aA=σ.put o.dst v)) (λaA=>aA=σ.put o.dst v) σ:=by
 unfold Av.KQ
 rcases ha with ⟨h1,h2⟩ | ⟨j,want,t,h1,h2,⟨b,h3,h4⟩ | ⟨h3,rfl⟩⟩
 ·rw [h1];exact h2.rh
 case inr.inr=>rw[h1];simp only[h2,h3]
 rw[h1]
 simp only[h2,h3]
 rcases h4 with ⟨h4,h5⟩ | ⟨h4,h5⟩
 ·exact⟨λ_=>h5.rh,λh=>by rw[h4] at h;cases want<;>cases h⟩
 exact⟨λh=>(by rw[h4] at h;cases want<;>cases h),λ_=>(by rw[h5])⟩
theorem KU {K:St->Prop}(h:JY T X o K σ):∃ v,AM T X σ o v/\K (σ.put o.dst v):=by
  rcases h with h | ⟨hp,aA,hs,h⟩ | ⟨t,e,i,ie,len,ps,d,rows,ho,hdst,hd,ht,hkd,he,hl,hK⟩
  · unfold F5 at h
    split at h
    · rename_i g args d hc hd
      obtain⟨r,h1,h2,h3⟩:=h
      exact⟨froze r,.inl ⟨g,args,d,hc,hd,r,h1,h2,rfl⟩,by rw[hd];exact h3⟩
    · split at h
      · rename_i aA hp hs
        obtain⟨v,rfl,h2⟩:=HK hp hs
        exact⟨v,.inr (.inl ⟨hp,λbo hb hx=>h2 bo (λ_ _ _ _=>by rw[hb]) hx⟩),h⟩
      · exact h.elim
  · obtain⟨v,rfl,h2⟩:=Ev hp hs
    exact⟨v,.inr (.inr λbo _ hx=>.inl ⟨_,h2 bo hx,rfl⟩),h⟩
  · refine⟨_,.inr (.inr λbo hb hx=>.inr ⟨t,e,i,ie,len,ps,d,rows,ho,hdst,by rw[hb];exact hd,ht,hkd,he,?_,rfl⟩),hK⟩
    rw[OJ]
    · exact hl
    · intro q hq
      refine hx q.2 ?_
      rw[ho]
      simp only[Op.operands]
      rw[List.mem_toArray]
      exact abI.2 ⟨q,hq,rfl⟩
theorem Ii (all:List Oper){K:St->Prop}:∀(l:List Oper) (σ:St),en T X all l K σ->
  ∃ vs:List (Option Tmp × PV),vs.length=l.length/\K (fS (λ_=>true) vs σ)/\∀ i o,l[i]? =some o->∃ v,vs[i]? =some (o.dst,v)/\wN T X all (fS (λj=>decide (j < i)) vs σ) o v
 | [],σ,h=>⟨[],rfl,h,λi o hi=>by simp at hi⟩
 | o::l,σ,h=>by
  have one:∀ v,wN T X all σ o v->en T X all l K (σ.put o.dst v)->
    ∃ vs:List (Option Tmp × PV),vs.length=(o::l).length/\K (fS (λ_=>true) vs σ)/\∀ i o',(o::l)[i]? =some o'->∃ v,vs[i]? =some (o'.dst,v)/\wN T X all (fS (λj=>decide (j < i)) vs σ) o' v:=by
   intro v hv hrest
   obtain⟨vs,h1,h2,h3⟩:=Ii all l _ hrest
   refine⟨(o.dst,v)::vs,by simp[h1],h2,λi o' hi=>?_⟩
   cases i with
   | zero=>
    simp at hi
    subst hi
    refine⟨v,rfl,?_⟩
    have:fS (λj=>decide (j < 0)) ((o.dst,v)::vs) σ=σ:=by
     have:∀(l:List (Option Tmp × PV)) (τ:St),fS (λj=>decide (j < 0)) l τ=τ:=by
      intro l
      induction l with
      | nil=>intro τ;rfl
      | cons p l ih=>intro τ;obtain⟨d,u⟩:=p;rw[fS];simpa using ih τ
     exact this _ _
    rw[this];exact hv
   | succ i=>
    obtain⟨u,hu,hd⟩:=h3 i o' (by simpa using hi)
    refine⟨u,by simpa using hu,?_⟩
    rw[fS]
    simpa using hd
  simp only[en] at h
  split at h
  ·rename_i hg
   obtain⟨v,hv,hr⟩:=KU h
   exact one v (.inl ⟨hg,hv⟩) hr
  rename_i j want hg
  split at h
  case h_2=>exact h.elim
  rename_i t ht
  split at h
  case h_3=>exact h.elim
  case h_2 hb=>exact one (.aw []) (.inr ⟨j,want,t,hg,ht,.inr ⟨hb,rfl⟩⟩) h
  rename_i b hb
  by_cases hbw:b=want
  ·obtain⟨v,hv,hr⟩:=KU (h.1 hbw)
   exact one v (.inr ⟨j,want,t,hg,ht,.inl ⟨b,hb,.inl ⟨hbw,hv⟩⟩⟩) hr
  have V4:b=(!want):=by cases b<;>cases want<;>simp_all
  exact one (.aw []) (.inr ⟨j,want,t,hg,ht,.inl ⟨b,hb,.inr ⟨V4,rfl⟩⟩⟩) (h.2 V4)
def ia (listed:Array Bool)(i:Nat):Bool:=listed.getD i false
def Kn (ops:Array Oper)(listed:Array Bool):Prop:=∀(i:Nat) (o:Oper),ops[i]? =some o->ia listed i=true->∀ e∈o.after,iD e=true->ia listed e.on=true
theorem AN {md:Region.Mode}{e:Edge}(h:iD e=true):Region.binds md e=true:=by
 obtain⟨on,g⟩:=e
 cases g<;>simp only[iD] at h<;>first | rfl | cases h
theorem wO {go:Nat->Bool}{j:Nat}:∀(l:List Edge),zZ go j l=true->∃ e,e∈l/\iD e=true/\(nq e.on j=true\/go e.on=true)
 | [],h=>by cases h
 | e::l,h=>by
  simp only[zZ] at h
  split at h
  ·rename_i hb
   split at h
   ·rename_i h1;exact⟨e,by simp,hb,.inl h1⟩
   split at h
   ·rename_i h2;exact⟨e,by simp,hb,.inr h2⟩
   obtain⟨e',he,h1,h2⟩:=wO l h;exact⟨e',by simp[he],h1,h2⟩
  obtain⟨e',he,h1,h2⟩:=wO l h;exact⟨e',by simp[he],h1,h2⟩
theorem mo {listed:Array Bool}(hc:Kn ops listed):∀(k i j:Nat),ahead ops k i j=true->(ia listed i=true\/∃ o,ops[i]? =some o/\∀ e∈o.after,iD e=true->ia listed e.on=true)->ia listed j=true
 | 0,i,j,h,_=>by cases h
 | k+1,i,j,h,hi=>by
  simp only[ahead] at h
  cases ho:ops[i]? with
  | none=>rw[ho] at h;cases h
  | some o=>
   rw[ho] at h
   obtain⟨e,he,hb,h2⟩:=wO _ h
   have hon:ia listed e.on=true:=by
    rcases hi with hi | ⟨o',ho',hi⟩
    ·exact hc i o ho hi e (by simpa using he) hb
    rw[ho] at ho';cases ho';exact hi e (by simpa using he) hb
   rcases h2 with h2 | h2
   ·rw [<- eZ h2];exact hon
   exact mo hc k e.on j h2 (.inl hon)
theorem KV (h:F7 ops=true){i:Nat}{y:Oper}(hi:ops[i]? =some y):∀ j x,j < i->ops[j]? =some x->ahead ops ops.size i j=true\/x.apart ops y=true:=by
 have hlt:i < ops.size:=(abh.1 hi).1
 simp only[F7,acx,List.mem_range] at h
 have h1:=h i hlt
 rw[hi] at h1
 simp only[acx,List.mem_range] at h1
 intro j x hj hx
 have h2:=h1 j hj
 rw[hx] at h2
 simp only at h2
 split at h2
 ·rename_i h3;exact .inr h3
 exact .inl h2
theorem wP {rk:List Nat}(h:ud rk ops=true){i:Nat}{y:Oper}(hi:ops[i]? =some y):∀ j x,j < i->ops[j]? =some x->ahead ops ops.size i j=true\/x.apart ops y=true:=by
 unfold ud at h
 simp only[Bool.and_eq_true] at h
 exact KV h.2 hi
def MS (ops:Array Oper)(listed:Array Bool):Nat:=(List.range ops.size).countP λi=> !ia listed i
theorem CQ {α:Type}{p q:α->Bool}{x:α}(hpq:∀ y,q y=true->p y=true)(hp:p x=true)(hq:q x=false):∀(l:List α),x∈l->l.countP q < l.countP p
 | [],h=>by simp at h
 | y::l,h=>by
  have hle:∀ m:List α,m.countP q<=m.countP p:=λm=>List.countP_mono_left λz _=>hpq z
  rw[List.countP_cons,List.countP_cons]
  by_cases hxy:y=x
  ·subst hxy
   have:=hle l
   simp[hp,hq]
   omega
  have hm:x∈l:=by simpa [Ne.symm hxy] using h
  have ih:=CQ hpq hp hq l hm
  have:(if q y=true then 1 else 0)<=(if p y=true then 1 else 0):=by
   by_cases hy:q y=true
   ·rw [if_pos hy,if_pos (hpq y hy)];exact Nat.le_refl _
   rw[if_neg hy];exact Nat.zero_le _
  omega
theorem rE {listed:Array Bool}{i:Nat}(hi:i < listed.size)(j:Nat):ia (listed.setIfInBounds i true) j=if j=i then true else ia listed j:=by
 unfold ia
 by_cases h:j=i
 ·subst h;simp[hi]
 rw[if_neg h,getD_set_ne false (Ne.symm h)]
def Ij (md:Region.Mode)(rk:List Nat)(i:Nat):Nat:=match md with | .gc=>F6 rk i | _=>i
theorem AO {rk:List Nat}(h:oH rk ops=true){i:Nat}{y:Oper}(hi:ops[i]? =some y)(md:Region.Mode):∀ e∈y.after,Region.binds md e=true->e.on < ops.size/\Ij md rk e.on < Ij md rk i:=by
 unfold oH at h
 rw[acx] at h
 have hlt:i < ops.size:=(abh.1 hi).1
 have:=h i (by simpa using hlt)
 rw[hi] at this
 simp only[acx] at this
 intro e he hb
 have h1:=this e (by simpa using he)
 obtain⟨on,g⟩:=e
 cases g<;>cases md<;>simp[Py,Region.binds,Ij,rZ] at h1 hb ⊢<;>omega
theorem wQ {md:Region.Mode}{listed:Array Bool}{rk:List Nat}(hsz:listed.size=ops.size)(hok:oH rk ops=true)(hr:Region.ready md ops listed=[]):∀(n i:Nat),Ij md rk i < n->i < ops.size->ia listed i=true
 | 0,i,h,_=>by omega
 | n+1,i,h,hi=>by
  have hprev:=λj (hj:Ij md rk j < Ij md rk i) (hs:j < ops.size)=>wQ hsz hok hr n j (by omega) hs
  cases hl:ia listed i with
  | true=>rfl
  | false=>
   have:i∈Region.ready md ops listed:=by
    rw[mem_ready]
    refine⟨?_,ops[i],by simp[hi],λe he hb=>?_⟩
    ·unfold ia at hl
     have iX:i < listed.size:=by omega
     simpa [iX] using hl
    have h2:=AO hok (i:=i) (y:=ops[i]) (by simp[hi]) md e he hb
    exact hprev e.on h2.2 h2.1
   rw[hr] at this
   cases this
theorem Qr (hT:fa P T)(hX:jd P X B W0){md:Region.Mode}{rk:List Nat}(hok:ud rk ops=true){vs:List (Option Tmp × PV)}{kJ:St}(hlen:vs.length=ops.toList.length)
    (hdo:∀ i o,ops[i]? =some o->∃ v,vs[i]? =some (o.dst,v)/\wN T X ops.toList (fS (λj=>decide (j < i)) vs kJ) o v)
    (hk:∀ a w,eo B W0 I0 (fS (λ_=>true) vs kJ) a w->Q .normal a w):
    ∀(fuel:Nat) (listed:Array Bool) (a:Act) (w:World),listed.size=ops.size->MS ops listed<=fuel->Kn ops listed->eo B W0 I0 (fS (ia listed) vs kJ) a w->wpAny P md ops Q fuel listed a w:=by
  have done:∀(listed:Array Bool) (a:Act) (w:World),(∀ i,i < ops.size->ia listed i=true)->eo B W0 I0 (fS (ia listed) vs kJ) a w->Q .normal a w:=by
    intro listed a w hall h
    refine hk a w ?_
    rw[yE vs (λ_=>true) (ia listed) kJ λi hi=>(hall i (by rw[hlen] at hi;simpa using hi)).symm]
    exact h
  intro fuel
  induction fuel with
  | zero=>
    intro listed a w hsz hu hc h
    have hall:∀ i,i < ops.size->ia listed i=true:=by
      intro i hi
      cases hl:ia listed i with
      | true=>rfl
      | false=>
        have h0:MS ops listed=0:=Nat.le_zero.1 hu
        unfold MS at h0
        rw[List.countP_eq_zero] at h0
        have:=h0 i (by simpa using hi)
        rw[hl] at this
        exact absurd rfl this
    refine⟨?_,done listed a w hall h⟩
    cases hr:Region.ready md ops listed with
    | nil=>rfl
    | cons i rs=>
      have hi:i∈Region.ready md ops listed:=by rw[hr];simp
      obtain⟨h1,o,ho,_⟩:=mem_ready.1 hi
      have hlt:i < ops.size:=(abh.1 ho).1
      have:=hall i hlt
      unfold ia at this
      have iX:i < listed.size:=by omega
      simp[iX] at h1 this
      rw[h1] at this;cases this
  | succ fuel ih=>
    intro listed a w hsz hu hc h
    refine⟨λhr=>done listed a w (λi hi=>wQ hsz (by unfold ud at hok;simp only[Bool.and_eq_true] at hok;exact hok.1) hr (Ij md rk i+1) i (by omega) hi) h,λi hi=>?_⟩
    obtain⟨h1,o,ho,hpre⟩:=mem_ready.1 hi
    have hlt:i < ops.size:=(abh.1 ho).1
    have iX:i < listed.size:=by omega
    have hli:ia listed i=false:=by unfold ia;simpa [iX] using h1
    have TO:∀ e∈o.after,iD e=true->ia listed e.on=true:=λe he hb=>hpre e he (AN hb)
    obtain⟨v,hv,hd⟩:=hdo i o ho
    -- what the listed ones write is what those ahead of i in the text write,as far as i looks
    have hwr:∀(j:Nat) (d:Option Tmp) (u:PV),vs[j]? =some (d,u)->∃ x,ops[j]? =some x/\x.dst=d:=by
      intro j d u hj
      have hjl:j < vs.length:=(List.getElem?_eq_some_iff.1 hj).1
      have hjs:j < ops.size:=by rw[hlen] at hjl;simpa using hjl
      have hx:ops[j]? =some ops[j]:=by simp[hjs]
      obtain⟨u',sU,_⟩:=hdo j _ hx
      rw[hj] at sU
      cases sU
      exact⟨_,hx,rfl⟩
    have hlook:∀ t∈o.looksAt ops,bM (fS (ia listed) vs kJ).sl t=bM (fS (λj=>decide (j < i)) vs kJ).sl t:=by
      intro t ht
      refine KT vs _ _ _ _ (λj d u hj hdt=>?_) rfl rfl
      obtain⟨x,hx,rfl⟩:=hwr j d u hj
      rcases Nat.lt_trichotomy j i with mn | mn | mn
      · rcases(wP hok ho) j x mn hx with ha | ha
        · rw[mo hc _ i j ha (.inr ⟨o,ho,TO⟩)];simp[mn]
        · exact absurd ht ((Oper.apart_spec ha).1 t hdt)
      · subst mn;rw[hli];simp
      · have h0:decide (j < i)=false:=by simp;omega
        rw[h0]
        cases hlj:ia listed j with
        | false=>rfl
        | true=>
          rcases(wP hok hx) i o mn ho with ha | ha
          · rw[mo hc _ j i ha (.inl hlj)] at hli;cases hli
          · exact absurd ht ((Oper.apart_spec ha).2.2 t hdt)
    have nL:wN T X ops.toList (fS (ia listed) vs kJ) o v:=hd.congr (by rw[Gr,Gr]) hlook
    refine yC hT hX ho h (K:=λaA=>aA=(fS (ia listed) vs kJ).put o.dst v) (λaA a' w' h' he=>?_) nL.KQ
    subst he
    refine ih _ a' w' (by simpa using hsz) ?_ ?_ ?_
    · have:MS ops (listed.setIfInBounds i true) < MS ops listed:=by
        refine CQ (x:=i) (λj hj=>?_) (by rw[hli];rfl) (by rw[rE iX,if_pos rfl];rfl) _ (by simpa using hlt)
        rw[rE iX] at hj
        by_cases mn:j=i
        · rw[if_pos mn] at hj;cases hj
        · rw[if_neg mn] at hj;exact hj
      omega
    · intro j x hx hj e he hb
      rw[rE iX]
      by_cases hei:e.on=i
      · rw[if_pos hei]
      · rw[if_neg hei]
        rw[rE iX] at hj
        by_cases mn:j=i
        · subst mn;rw[ho] at hx;cases hx;exact TO e he hb
        · rw[if_neg mn] at hj;exact hc j x hx hj e he hb
    · rw[CP vs i (ia listed) (ia (listed.setIfInBounds i true)) kJ hv hli (by rw[rE iX,if_pos rfl]) (λj hj=>by rw[rE iX,if_neg hj]) ?_]
      · exact h'
      · intro j d' u hij hj hlj t hdt
        obtain⟨x,hx,rfl⟩:=hwr j d' u hj
        rcases(wP hok hx) i o hij ho with ha | ha
        · rw[mo hc _ j i ha (.inl hlj)] at hli;cases hli
        · exact(Oper.apart_spec ha).2.1 t hdt
theorem eo.drew (h:eo B W0 I0 σ a w):eo B W0 I0 σ a {w with drawn:=w.drawn+1}:=by
 obtain⟨I,val,fs,h⟩:=h
 exact⟨I,val,fs,h.grow ((Below.refl _ w).drew)⟩
theorem OK (hT:fa P T)(hX:jd P X B W0){id:Nat}{rk:List Nat}(hok:ud rk ops=true){K:St->Prop}(hk:∀ aA a' w',eo B W0 I0 aA a' w'->K aA->Q .normal a' w')(h:eo B W0 I0 σ a w)
  (ha:en T X ops.toList ops.toList K σ):(Code.region id ops true).wp P Q a w:=by
 obtain⟨vs,hlen,hK,hdo⟩:=Ii _ _ _ ha
 have key:∀(md:Region.Mode) (t:Nat),wpOps P ops Q (Region.linearise md ops t) a {w with drawn:=w.drawn+1}:=by
  intro md t
  refine wpAny_sound ops.size t _ a _ ?_
  refine Qr hT hX hok (vs:=vs) (kJ:=σ) hlen (λi o hi=>hdo i o (by simpa using hi)) (λa' w' h'=>hk _ a' w' h' hK) ops.size _ a _ (by simp) ?_ ?_ ?_
  ·unfold MS
   have:=List.countP_le_length (p:=λi=> !ia (abR ops.size false) i) (l:=List.range ops.size)
   simpa using this
  ·intro i o hi hl
   have:ia (abR ops.size false) i=false:=by unfold ia;simp only[acm,acB];split<;>rfl
   rw[this] at hl;cases hl
  have:fS (ia (abR ops.size false)) vs σ=σ:=by
   have:∀(l:List (Option Tmp × PV)) (τ:St),fS (λ_=>false) l τ=τ:=by
    intro l
    induction l with
    | nil=>intro τ;rfl
    | cons p l ih=>intro τ;obtain⟨d,u⟩:=p;rw[fS];simpa using ih τ
   have e:ia (abR ops.size false)=λ_=>false:=by
    funext i;unfold ia;simp only[acm,acB];split<;>rfl
   rw[e];exact this _ _
  rw[this]
  exact h.drew
 refine wp_region_draw λt=>?_
 unfold Region.schedule
 split
 ·exact key _ _
 exact key _ _
theorem se :∀(L:List Bool) (i j:Nat),i < L.length->fG (lK L i) j=if j=i then true else fG L j
 | b::l,0,0,_=>by simp[fG,lK]
 | b::l,0,j+1,_=>by simp[fG,lK]
 | b::l,i+1,0,_=>by simp[fG,lK]
 | b::l,i+1,j+1,h=>by
  have:=se l i j (by simpa using h)
  simp only[fG,lK,this,Nat.add_right_cancel_iff]
theorem Dt :∀(L:List Bool) (i:Nat),(lK L i).length=L.length
 | [],_=>rfl
 | b::l,0=>rfl
 | b::l,i+1=>by simp[lK,Dt l i]
theorem vp :∀(L:List Bool) (i:Nat),i < L.length->fG L i=false->lx (lK L i)+1=lx L
 | b::l,0,_,h=>by
  have:b=false:=h
  subst this;rfl
 | b::l,i+1,hi,h=>by
  have:=vp l i (by simpa using hi) h
  cases b<;>simp only[lK,lx]<;>omega
theorem KW :∀(L:List Bool),(∀ i,i < L.length->fG L i=true)->lx L=0
 | [],_=>rfl
 | b::l,h=>by
  have h0:b=true:=h 0 (by simp)
  subst h0
  exact KW l λi hi=>h (i+1) (by simpa using hi)
theorem mB :∀(L:List Bool),lx L=0->∀ i,i < L.length->fG L i=true
 | [],_,i,hi=>by simp at hi
 | true::l,h,0,_=>rfl
 | true::l,h,i+1,hi=>mB l h i (by simpa using hi)
 | false::l,h,i,hi=>by simp[lx] at h
theorem yr :∀ n:Nat,(me n).length=n
 | 0=>rfl
 | n+1=>by simp[me,yr n]
theorem tv :∀(n i:Nat),fG (me n) i=false
 | 0,_=>rfl
 | n+1,0=>rfl
 | n+1,i+1=>tv n i
theorem yt :∀ n:Nat,lx (me n)=n
 | 0=>rfl
 | n+1=>by simp[me,lx,yt n]
theorem KX :∀(n i j:Nat),i<=j->j < i+n->j∈upto i n
 | 0,i,j,h1,h2=>by omega
 | n+1,i,j,h1,h2=>by
  by_cases h:j=i
  ·subst h;simp[upto]
  simp only[upto,aa9];exact .inr (KX n (i+1) j (by omega) (by omega))
theorem yF {L:List Bool}{F:Nat->Oper->Prop}{i:Nat}(ho:tt ops L i=some o):∀ l:List Nat,iq ops L F l->i∈l->F i o
 | j::l,h,hm=>by
  simp only[iq] at h
  rcases aa9.1 hm with rfl | hm
  ·rw [ho] at h;exact h.1
  split at h
  ·exact yF ho l h.2 hm
  exact yF ho l h hm
theorem OL (hT:fa P T)(hX:jd P X B W0){md:Region.Mode}{rk:List Nat}(hok:oH rk ops=true){K:St->Prop}(hk:∀ aA a' w',eo B W0 I0 aA a' w'->K aA->Q .normal a' w'):
    ∀(n fuel:Nat) (L:List Bool) (listed:Array Bool) (σ:St) (a:Act) (w:World),listed.size=ops.size->L.length=ops.size->(∀ i,i < ops.size->ia listed i=fG L i)->lx L=n->n<=fuel->eo B W0 I0 σ a w->mY T X ops K n L σ->wpAny P md ops Q fuel listed a w:=by
  intro n
  induction n with
  | zero=>
    intro fuel L listed σ a w hsz hL hl hc hf h hd
    obtain⟨tw,aA,ht,hK⟩:=hd
    have hq:Q .normal a w:=hk aA a w (iR tw h ht) hK
    have jL:∀ i,i∈Region.ready md ops listed->False:=by
      intro i hi
      obtain⟨h1,o,ho,_⟩:=mem_ready.1 hi
      have hlt:i < ops.size:=(abh.1 ho).1
      have iX:i < listed.size:=by omega
      have h2:=mB L hc i (by omega)
      rw[<- hl i hlt] at h2
      unfold ia at h2
      simp[iX] at h1 h2
      rw[h1] at h2;cases h2
    cases fuel with
    | zero=>
      refine⟨?_,hq⟩
      cases hr:Region.ready md ops listed with
      | nil=>rfl
      | cons i rs=>exact(jL i (by rw[hr];simp)).elim
    | succ fuel=>exact⟨λ_=>hq,λi hi=>(jL i hi).elim⟩
  | succ n ih=>
    intro fuel L listed σ a w hsz hL hl hc hf h hd
    cases fuel with
    | zero=>omega
    | succ fuel=>
      obtain⟨tw,aA,ht,hall⟩:=hd
      have h':=iR tw h ht
      refine⟨λhr=>?_,λi hi=>?_⟩
      · have:=KW L λi hi=>by rw[<- hl i (by omega)];exact wQ hsz hok hr (Ij md rk i+1) i (by omega) (by omega)
        omega
      · obtain⟨h1,o,ho,hpre⟩:=mem_ready.1 hi
        have hlt:i < ops.size:=(abh.1 ho).1
        have iX:i < listed.size:=by omega
        have hli:ia listed i=false:=by unfold ia;simpa [iX] using h1
        have hni:fG L i=false:=by rw[<- hl i hlt];exact hli
        have hrd:tt ops L i=some o:=by
          have:(o.after.toList.all λe=> !iD e || fG L e.on)=true:=by
            rw[acx]
            intro e he
            have he:e∈o.after:=by simpa using he
            cases hb:iD e with
            | false=>rfl
            | true=>
              have h2:=hpre e he (AN hb)
              have h3:=(AO hok ho md e he (AN hb)).1
              have h4:ia listed e.on=true:=h2
              rw[hl e.on (by omega)] at h4
              simp[h4]
          unfold tt
          simp only[ho,hni,this,Bool.not_false,Bool.and_self]
        have hF:=yF hrd _ hall (KX ops.size 0 i (by omega) (by omega))
        have hF:bN T X ops.toList (o::[]) (mY T X ops K n (lK L i)) aA:=hF
        rw[Ig] at hF
        refine yC hT hX ho h' (K:=mY T X ops K n (lK L i)) (λbo a2 w2 h2 dO=>?_) hF
        refine ih fuel (lK L i) _ bo a2 w2 (by simpa using hsz) (by rw[Dt];exact hL) (λj hj=>?_) ?_ (by omega) h2 dO
        · rw[rE iX,se L i j (by omega)]
          by_cases mn:j=i
          · rw[if_pos mn,if_pos mn]
          · rw[if_neg mn,if_neg mn];exact hl j hj
        · have:=vp L i (by omega) hni
          omega
theorem Ml (hT:fa P T)(hX:jd P X B W0){id:Nat}{rk:List Nat}(hok:oH rk ops=true){K:St->Prop}(hk:∀ aA a' w',eo B W0 I0 aA a' w'->K aA->Q .normal a' w')(h:eo B W0 I0 σ a w)
  (ha:mY T X ops K ops.size (me ops.size) σ):(Code.region id ops true).wp P Q a w:=by
 have key:∀(md:Region.Mode) (t:Nat),wpOps P ops Q (Region.linearise md ops t) a {w with drawn:=w.drawn+1}:=by
  intro md t
  refine wpAny_sound ops.size t _ a _ ?_
  refine OL hT hX hok hk ops.size ops.size (me ops.size) _ σ a _ (by simp) (yr _) (λi hi=>?_) (yt _) (Nat.le_refl _) h.drew ha
  rw[tv]
  unfold ia;simp only[acm,acB];split<;>rfl
 refine wp_region_draw λt=>?_
 unfold Region.schedule
 split
 ·exact key _ _
 exact key _ _
end
def AE.to :AE->Exit
 | .normal=>.normal
 | .exit id=>.exit id
 | .ret=>.ret
section
variable {P : Program} {T : dA} {X : Spec} {B : Ft} {W0 : World} {I0 : Ft} {σ aA : St} {a : Act} {w w' : World} {o : Oper} {ops : Array Oper} {Q : Exit -> Act -> World -> Prop}
theorem Qs {c:Code}(I:Nat->Act->World->Prop){n:Nat}(aap:I n a w)(round:∀ n a w,I n a w->c.wp P (Exit.then (λa' w'=>∃ m,m < n/\I m a' w') Q) a w):(Code.loop c).wp P Q a w:=by
 intro b k cs
 have key:∀ n a w,I n a w->∃ e a' w',Q e a' w'/\Arrives P (lone (b.at a (.code c:: .inLoop c::k)) cs w) b k cs e a' w':=by
  intro n
  induction n using Nat.strongRecOn with
  | _ n ih=>
   intro a w hI
   obtain⟨e,Gs,Gt,hq,harr⟩:=round n a w hI b (.inLoop c::k) cs
   cases e with
   | normal=>
    obtain⟨m,hlt,YZ⟩:=hq
    obtain⟨aaq,aar,aas,Y0,UK⟩:=ih m hlt Gs Gt YZ
    exact⟨aaq,aar,aas,Y0,.of_steps (Steps.trans harr (.one step_inLoop)) UK⟩
   | exit id=>exact⟨_,Gs,Gt,hq,.pass (x:=.inLoop c) rfl (λ_ _=>.inl (by simp)) harr⟩
   | goto l=>exact⟨_,Gs,Gt,hq,.pass (x:=.inLoop c) rfl (λ_ _=>.inl (by simp)) harr⟩
   | ret=>exact⟨_,Gs,Gt,hq,.pass (x:=.inLoop c) rfl (λ_ _=>.inl (by simp)) harr⟩
   | panic ch=>exact⟨_,Gs,Gt,hq,.pass (x:=.inLoop c) rfl (λ_ _=>.inl (by simp)) harr⟩
   | outgrown=>exact⟨_,Gs,Gt,hq,.pass (x:=.inLoop c) rfl (λ_ _=>.inl (by simp)) harr⟩
 obtain⟨e,a',w',hq,harr⟩:=key _ a w aap
 exact⟨e,a',w',hq,.of_steps (.one step_loop) harr⟩
theorem vD (hT:fa P T)(hX:jd P X B W0)(c:Code):∀(Qa:AE->St->Prop) (Q:Exit->Act->World->Prop) (σ:St) (a:Act) (w:World),(∀ e σ a w,eo B W0 I0 σ a w->Qa e σ->Q e.to a w)->eo B W0 I0 σ a w->
  fO T X c Qa σ->c.wp P Q a w:=by
 induction c with
 | skip=>intro Qa Q σ a w hQ h ha;exact wp_skip (hQ .normal σ a w h ha)
 | region id ops draw=>
  intro Qa Q σ a w hQ h ha
  cases draw with
  | false=>
   obtain⟨tw,aA,ht,ha⟩:=ha
   exact KR hT hX (λσ a w hs hq=>(by obtain⟨qt,bo,h2,h3⟩:=hq;exact hQ .normal bo a w (iR qt hs h2) h3)) (iR tw h ht) ha
  | true=>
   obtain⟨tw,aA,ht,⟨⟨_,hok⟩,ha⟩ | ⟨hok,ha⟩⟩:=ha
   ·exact OK hT hX hok (λσ a w=>hQ .normal σ a w) (iR tw h ht) ha
   obtain⟨rk,hok⟩:=hok
   exact Ml hT hX hok (λσ a w=>hQ .normal σ a w) (iR tw h ht) ha
 | seq x y ihx ihy=>
  intro Qa Q σ a w hQ h ha
  refine wp_seq (ihx _ _ σ a w (λe aA a' w' h' hq=>?_) h ha)
  cases e with
  | normal=>exact ihy Qa Q aA a' w' hQ h' hq
  | exit id=>exact hQ (.exit id) _ _ _ h' hq
  | ret=>exact hQ .ret _ _ _ h' hq
 | cond c x y ihx ihy=>
  intro Qa Q σ a w hQ h ha
  simp only[fO] at ha
  split at ha
  ·rename_i t hc
   obtain⟨I,val,fs,hs⟩:=h
   have he:=hs.eval c
   rw[hc] at he
   have he:=pH he
   cases t
   ·exact wp_cond_false he (ihy Qa Q σ a w hQ ⟨I,val,fs,hs⟩ (ha.2 rfl))
   exact wp_cond_true he (ihx Qa Q σ a w hQ ⟨I,val,fs,hs⟩ (ha.1 rfl))
  exact ha.elim
 | block id b ih=>
  intro Qa Q σ a w hQ h ha
  refine wp_block (ih _ _ σ a w (λe aA a' w' h' hq=>?_) h ha)
  cases e with
  | normal=>exact hQ .normal _ _ _ h' hq
  | exit Aa=>
   simp only[AE.to,Exit.inBlock]
   by_cases hid:Aa=id
   ·rw [if_pos hid];exact hQ .normal _ _ _ h' (hq.1 hid)
   rw[if_neg hid];exact hQ (.exit Aa) _ _ _ h' (hq.2 hid)
  | ret=>exact hQ .ret _ _ _ h' hq
 | loop b ih=>
  intro Qa Q σ a w hQ h ha
  rcases ha with ⟨tw,kJ,ks,ds,I,n,ht,hI,hround⟩ | ⟨n,ha⟩
  case inr=>
   refine wp_loop_rounds n ?_
   clear hT hX
   induction n generalizing σ a w with
   | zero=>exact ha.elim
   | succ n ihn=>
    refine ih _ _ σ a w (λe bo a2 w2 h2 hq=>?_) h ha
    cases e with
    | normal=>
     obtain⟨tw,mZ,ks,ds,ht,hq⟩:=hq
     exact ihn _ _ _ (yD (iR tw h2 ht) ks ds) hq
    | exit id=>exact hQ (.exit id) _ _ _ h2 hq
    | ret=>exact hQ .ret _ _ _ h2 hq
  refine Qs (I:=λn a w=>∃ σ,I σ n/\eo B W0 I0 σ a w) (n:=n) ⟨_,hI,yD (iR tw h ht) ks ds⟩ ?_
  intro m a' w' hm
  obtain⟨aR,AP,h1⟩:=hm
  refine ih _ _ aR a' w' (λe bo a2 w2 h2 hq=>?_) h1 (hround aR m AP)
  cases e with
  | normal=>
   obtain⟨m',hlt,Qt⟩:=hq
   exact⟨m',hlt,_,Qt,yD h2 ks ds⟩
  | exit id=>exact hQ (.exit id) _ _ _ h2 hq
  | ret=>exact hQ .ret _ _ _ h2 hq
 | exit id=>intro Qa Q σ a w hQ h ha;exact wp_exit (hQ (.exit id) σ a w h ha)
 | ret=>intro Qa Q σ a w hQ h ha;exact wp_ret (hQ .ret σ a w h ha)
 | _=>intro Qa Q σ a w hQ h ha;exact ha.elim
variable {I : Ft} {val : Nat -> Value} {fs : Nat -> Ft}
def pk (tmps:Array Value):ResultVar->Sem Value
 | .tmp t=>pure (tmps.getD t undef)
 | .cell a t=>do loadVar t (<- asAddr (tmps.getD a undef))
theorem KY (h:bz B W0 I0 I val fs σ a w)(t:Nat):bI w I val σ.bl (bM σ.sl t) (a.tmps.getD t undef):=by
 have:=h.cC.get t undef
 simpa using this
theorem EN (hT:fa P T)(h:bz B W0 I0 I val fs σ a w){x:ResultVar}{v:PV}(hv:Ab T σ x=some v):∃ u,(pk a.tmps x).run P w=.ok u w/\bI w I val σ.bl v u:=by
 cases x with
 | tmp t=>
  simp only[Ab,aaQ.injEq] at hv
  subst hv
  exact⟨_,rfl,KY h t⟩
 | cell ad t=>
  simp only[Ab] at hv
  split at hv
  case h_2=>cases hv
  rename_i i d j hTt hsl
  split at hv
  case h_2=>cases hv
  rename_i sz r hb
  have he:=KY h ad
  rw[hsl] at he
  generalize hu:a.tmps.getD ad undef=u at he
  cases he with
  | leaf c v hl h=>cases hl
  | pt d i' j b g cP hg=>
   rw[hb] at cP
   cases cP
   obtain⟨vs,hc,hR⟩:=MJ (a:=0) (r:=r) (h.blocks d _ hb) rfl hg
   obtain⟨y,hrun,hy⟩:=qG (P:=P) (hT _ _ hTt) (a:=⟨g,0 * sz+j,none⟩) (vs:=vs.drop j) (λk u hk=>by
    rw[Addr.add_mid,show 0 * sz+j+k=0 * sz+(j+k) by omega]
    exact hc (j+k) u (by simpa using hk)) (hR.drop j) hv
   refine⟨y,?_,hy⟩
   simp only[pk,hu,asAddr]
   exact hrun
theorem tC (hT:fa P T):∀(l:List ResultVar) (σ:St),bz B W0 I0 I val fs σ a w->∀ vs,km T σ l=some vs->
  ∃ us F,(l.mapM (pk a.tmps)).run P w=.ok us w/\us.length=l.length/\iE w I vs us F/\∀ x,F x->∃ d b,av σ.bl d=some b/\fs d x
 | [],σ,h,vs,hc=>by
  simp only[km,aaQ.injEq] at hc
  subst hc
  exact⟨[],bf,rfl,rfl,.nil _,λx hx=>hx.elim⟩
 | x::l,σ,h,vs,hc=>by
  simp only[km] at hc
  split at hc
  case h_2=>cases hc
  rename_i v hv
  split at hc
  case h_2=>cases hc
  rename_i v' aR h1
  split at hc
  case h_2=>cases hc
  rename_i l' h2
  simp only[aaQ.injEq] at hc
  subst hc
  obtain⟨u,hrun,hR⟩:=EN hT h hv
  obtain⟨F,hS,xg,hF,hsub⟩:=EL h hR h1
  obtain⟨us,G,hruns,hlen,CR,hG⟩:=tC hT l aR hS l' h2
  refine⟨u::us,λx=>F x\/G x,?_,by simp[hlen],.cons _ _ _ _ F G _ xg CR (λ_ h=>.inl h) (λ_ h=>.inr h) (λb hb hg=>?_),λy hy=>?_⟩
  ·rw [List.mapM_cons]
   simp only[Sem.run_bind,hrun,Result.andThen_ok,hruns,Sem.run_pure]
  ·obtain⟨d,q,hq,hn,hf⟩:=hF b hb
   obtain⟨e,q',pV,J4⟩:=hG b hg
   obtain⟨q2,nV,_⟩:=hsub e q' pV
   have hne:d≠e:=by rintro rfl;rw[hn] at pV;cases pV
   exact h.bX d e _ _ hq nV hne b hf J4
  rcases hy with hy | hy
  ·obtain⟨d,q,hq,_,hf⟩:=hF y hy;exact⟨d,q,hq,hf⟩
  obtain⟨d,q,hq,hf⟩:=hG y hy
  obtain⟨q2,nV,_⟩:=hsub d q hq
  exact⟨d,q2,nV,hf⟩
theorem rU {fn:Func}{tmps:Array Value}{us:List Value}(h:(fn.results.toList.mapM (pk tmps)).run P w=.ok us w):
  (results fn tmps).run P w=.ok (if h:us.length=1 then us[0] else .tuple us.toArray) w:=by
 have e:(fn.results.mapM (pk tmps))=List.toArray <$> fn.results.toList.mapM (pk tmps):=by
  rw[Array.mapM_eq_mapM_toList]
 have h2:(fn.results.mapM (pk tmps)).run P w=.ok us.toArray w:=by
  rw[e]
  show((fn.results.toList.mapM (pk tmps)) >>= (λl=>pure l.toArray)).run P w=_
  rw[Sem.run_bind,h,Result.andThen_ok]
  rfl
 have:results fn tmps=(fn.results.mapM (pk tmps)) >>= λvs=>pure (if h:vs.size=1 then vs[0] else .tuple vs):=by
  unfold results
  congr 1
 rw[this,Sem.run_bind,h2,Result.andThen_ok]
 simp only[Sem.run_pure]
 simp
theorem tD {vs:List PV}{us:List Value}{F:Ft}(h:iE w I vs us F):jK w I (lB vs) (if h:us.length=1 then us[0] else .tuple us.toArray) F:=by
 cases h with
 | nil F=>exact .aw [] [] _ (.nil _)
 | cons c l v vs F G H h t hF hG d=>
  cases t with
  | nil G=>
   simp only[lB,List.length_singleton,dite_true,List.getElem_cons_zero]
   refine .one _ _ _ ?_
   cases h with
   | one c v F h=>exact .one _ _ _ (h.mono hF)
   | agg cs vs F h=>exact .agg _ _ _ (h.mono hF)
  | cons c2 l2 v2 vs2 F2 G2 H2 h2 t2 V5 P8 d2=>
   have:¬ (v::v2::vs2).length=1:=by simp
   rw[dif_neg this]
   exact .aw _ _ _ (.cons _ _ _ _ F G _ h (.cons _ _ _ _ F2 G2 _ h2 t2 V5 P8 d2) hF hG d)
theorem OB (hT : fa P T) (hX : uz P X) {g : FuncId} {fn : Func} (hf : P.funcs[g]? = some fn) (hn : (fn.name == "runtime.NumGoroutine") = false) {args : List PV} {r : PV} (ha : J0 T X fn args r) : Real P g args r := by
 unfold J0 at ha
 split at ha
 case h_2=>exact ha.elim
 rename_i c hc
 refine⟨⟨fn,c,hf,hc,hn⟩,λw qJ I vs val hargs hI=>?_⟩
 refine calls_of_wp hf hc ?_
 have hsim:bz (λx=>w.heap.size<=x) w I I val (λ_=>bf) (Jy fn args) {tmps:=vs.toArray++abR (fn.ntmps - vs.toArray.size) undef,defers:=[]} w:=by
  refine{cC:= ?_,blocks:=λd b hb=>?_,bX:=λd d' b b' hb=>?_,dt:=λd b hb=>?_,new:=λd b hb=>?_,lt:=hI,eJ:=λx hx=>.inl hx,below:=Kept.refl _ _,size:=λx hx=>hx,dP:=λd v hv=>(by cases hv),defers:=rfl}
  ·have hl:=hargs.len
   have e:(vs.toArray++abR (fn.ntmps - vs.toArray.size) undef).toList=vs++aa0 (fn.ntmps - args.length) undef:=by simp[hl]
   show aG w I val [] (args++aa0 (fn.ntmps - args.length) .aa) _
   rw[e]
   refine hargs.append ?_
   generalize fn.ntmps - args.length=n
   induction n with
   | zero=>exact .nil
   | succ n ih=>rw[abu,abu];exact .cons _ _ _ _ (.aa _) ih
  ·cases hb
  ·cases hb
  ·cases hb
  cases hb
 have fin:∀ σ a w',eo (λx=>w.heap.size<=x) w I σ a w'->(∃ us,km T σ fn.results.toList=some us/\r=lB us)->
   a.defers=[]/\∃ v,(results fn a.tmps).run P w'=.ok v w'/\∃ J F,jK w' J r v F/\(∀ x,F x->w.heap.size<=x/\x < w'.heap.size)/\(∀ x,J x->(I x\/w.heap.size<=x)/\x < w'.heap.size/\¬ F x)/\Below w.heap.size w w':=by
  intro σ a w' ⟨I1,qw,vn,hs⟩ ⟨us,hus,hr⟩
  obtain⟨xs,F,hrun,hlen,CR,hF⟩:=tC hT _ σ hs us hus
  refine⟨hs.defers,_,rU hrun,I1,F,by rw[hr];exact tD CR,λx hx=>?_,λx hx=>⟨hs.eJ x hx,hs.lt x hx,λhf=>?_⟩,hs.below.VS⟩
  ·obtain⟨d,b,hb,hfx⟩:=hF x hx;exact hs.new d b hb x hfx
  obtain⟨d,b,hb,hfx⟩:=hF x hf;exact hs.dt d b hb x hfx hx
 refine vD hT ⟨hX,qJ,λg hg hb=>by have:=qJ.lt g hg;omega⟩ c _ _ _ _ _ (λe σ a w' hs hq=>?_) ⟨I,val,_,hsim⟩ ha
 cases e with
 | normal=>exact fin σ a w' hs hq
 | exit id=>exact hq.elim
 | ret=>exact fin σ a w' hs hq
theorem SB (hT:fa P T)(h:bz B W0 I0 I val fs σ a w):∀(l:List ResultVar) (vs:List PV),Dg T σ l=some vs->∃ us,(l.mapM (pk a.tmps)).run P w=.ok us w/\us.length=l.length/\iE w I vs us bf:=by
 intro l
 induction l with
 | nil=>intro vs h;simp only[Dg,aaQ.injEq] at h;subst h;exact⟨[],by simp,rfl,.nil _⟩
 | cons x l ih=>
  intro vs hv
  simp only[Dg] at hv
  split at hv
  ·rename_i v l' h1 h2
   cases hl:bG v with
   | false=>simp[hl] at hv
   | true=>
    simp only[hl,cond_true,aaQ.injEq] at hv
    subst hv
    obtain⟨us,e1,e2,e3⟩:=ih l' h2
    obtain⟨u,e4,e5⟩:=EN hT h h1
    refine⟨u::us,?_,by simp[e2],.cons _ _ _ _ bf bf _ ?_ e3 (λ_ h=>h) (λ_ h=>h) (λ_ h=>h.elim)⟩
    ·simp only[List.mapM_cons,Sem.run_bind,e4,Result.andThen_ok,e1,Sem.run_pure]
    cases e5 with
    | leaf c v hl h=>exact .one _ _ _ h
    | own d b hb hk=>cases hl
    | pt d i j b g hb hg=>cases hl
    | rd cs a vs hI hs hc hr=>cases hl
    | agg cs vs h=>cases hl
    | aw cs vs h=>cases hl
    | fn f cs vs h=>cases hl
    | aa v=>cases hl
  cases hv
theorem yG :∀{x bl:List (Nat × aO)},cV bl x=true->∀{d:Nat} {b:aO},av x d=some b->av bl d=none
 | [],_,_,d,b,h=>by cases h
 | (e,c)::x,bl,hf,d,b,h=>by
  obtain⟨h1,h2,h3⟩:=lC hf
  rw[bQ] at h
  by_cases h0:e=d
  ·subst h0;exact h1
  rw[if_neg h0] at h;exact yG h3 h
def lQ (fs:Nat->Ft)(bl:List (Nat × aO)):Ft:=λx=>∃ d b,av bl d=some b/\fs d x
theorem lQ.right {fs:Nat->Ft}{x y:List (Nat × aO)}(hf:cV y x=true):∀ z,lQ fs y z->lQ fs (x++y) z:=by
 rintro z ⟨d,b,hb,hz⟩
 refine⟨d,b,?_,hz⟩
 rw[fZ]
 cases hq:av x d with
 | none=>exact hb
 | some c=>rw[yG hf hq] at hb;cases hb
theorem lQ.left {fs:Nat->Ft}{x y:List (Nat × aO)}:∀ z,lQ fs x z->lQ fs (x++y) z:=by
 rintro z ⟨d,b,hb,hz⟩
 exact⟨d,b,by rw[fZ,hb],hz⟩
theorem lQ.apart {fs:Nat->Ft}{x y:List (Nat × aO)}(hf:cV y x=true)(hd:∀ d d' b b',av x d=some b->av y d'=some b'->d≠d'->∀ z,fs d z->¬ fs d' z):∀ z,lQ fs x z->¬ lQ fs y z:=by
 rintro z ⟨d,b,hb,hz⟩ ⟨d',b',cP,P6⟩
 refine hd d d' b b' hb cP ?_ z hz P6
 rintro rfl
 rw[yG hf hb] at cP
 cases cP
theorem wR {σ:St}{hv:Nat->Value}:∀{x y:List (Nat × aO)},mf σ hv (x++y)->mf σ hv x/\mf σ hv y
 | [],y,h=>⟨trivial,h⟩
 | (d,b)::x,y,h=>by
  obtain⟨h1,h2⟩:=h
  obtain⟨h3,h4⟩:=wR h2
  exact⟨⟨h1,h3⟩,h4⟩
section
variable {w0 : World} {rF : Nat -> Value} {ph : List (Nat × aO)} {J : Ft}
theorem KZ (h:bz B W0 I0 I val fs σ a w)(iV:∀ x,I x->J x)(hK:bw I0 w0 w)(zA:∀ x,I0 x->J x){id:Nat}{c c':PV}{v:Value}{F:Ft}(hb:bI w0 I0 rF ph (jU true id c).1 v)(hc:dj w0 I0 c v F)
    {l:List (Nat × aO)} (hl:l=match (jU true id c).2 with | some b=>[(id,b)] | none=>[]) (hh:mf σ rF l) (he:Ac σ id c=some c'):
    dj w J c' v (lQ fs l)/\∀ d b,av l d=some b->∃ b',av σ.bl d=some b':=by
  have leaf:bG c=true->Ac σ id c=some c->l=[]->dj w J c' v (lQ fs l)/\∀ d b,av l d=some b->∃ b',av σ.bl d=some b':=by
    intro h1 h2 h3
    rw[h2] at he
    cases he
    exact⟨fH h1 ((fH (F':=bf) h1 hc).frame hK zA (λ_ h=>h.elim)),λd b hd=>by rw[h3] at hd;cases hd⟩
  cases c with
  | ow sz rows=>
    have my:l=[(id,⟨.arr,sz,rows⟩)]:=hl
    subst my
    simp only[Ac] at he
    split at he
    · rename_i oS dI hq
      cases hz:nq oS sz with
      | false=>simp[hz] at he
      | true=>
        have P6:=eZ hz
        subst P6
        simp only[hz,cond_true,aaQ.injEq] at he
        subst he
        have cP:bI w0 I0 rF ph (.own id) v:=hb
        have hv:v=rF id:=by cases cP with
          | leaf c v hl h=>cases hl
          | own d b hb hk=>rfl
        obtain⟨Qu,_⟩:=hh
        have hv1:=(h.dP id _ Qu).1
        rw[hv,<- hv1]
        obtain⟨e,xs,G,hu,how,hr,hG,hob⟩:=h.blocks id _ hq
        refine⟨((dj.ow oS dI (val id) e xs (fs id) G hu how hr hG hob).frame (bw.refl _ _) iV (bw.refl _ _)).mono λx hx=>⟨id,_,by rw[bQ,if_pos rfl],hx⟩,λd b hd=>?_⟩
        rw[bQ] at hd
        by_cases h0:id=d
        · subst h0;exact⟨_,hq⟩
        · rw[if_neg h0] at hd;cases hd
    · cases he
  | int k n=>exact leaf rfl rfl hl
  | bool b=>exact leaf rfl rfl hl
  | str b=>exact leaf rfl rfl hl
  | zc=>exact leaf rfl rfl hl
  | sl sz rows=>exact leaf rfl rfl hl
  | own d=>cases hc
  | pt d i j=>cases hc
  | rd cs=>cases hc
  | agg cs=>cases hc
  | aw cs=>cases hc
  | fn f cs=>cases hc
  | raw v=>simp[Ac,bG] at he
  | aa=>simp[Ac,bG] at he
theorem K0 (h:bz B W0 I0 I val fs σ a w)(iV:∀ x,I x->J x)(hK:bw I0 w0 w)(zA:∀ x,I0 x->J x):∀{l l':List PV} {vs:List Value} {F:Ft} {id:Nat},bE w0 I0 l vs F->aG w0 I0 rF ph (bJ true id l).1 vs->mf σ rF (bJ true id l).2->cV [] (bJ true id l).2=true->
    JZ σ id l=some l'->bE w J l' vs (lQ fs (bJ true id l).2)/\∀ d b,av (bJ true id l).2 d=some b->∃ b',av σ.bl d=some b'
  | _,l',_,_,id,.nil _,_,_,_,he=>by
    simp only[JZ,aaQ.injEq] at he;subst he
    exact⟨.nil _,λd b hd=>by cases hd⟩
  | _,l',_,_,id,.cons c l v vs F G H hc ht hF hG hd,hs,hh,hfr,he=>by
    have e2:(bJ true id (c::l)).2=(match (jU true id c).2 with | some b=>[(id,b)] | none=>[])++(bJ true (id+1000) l).2:=by
      simp only[bJ]
      cases (jU true id c).2<;>rfl
    have e1:(bJ true id (c::l)).1=(jU true id c).1::(bJ true (id+1000) l).1:=rfl
    rw[e1] at hs
    rw[e2] at hh hfr ⊢
    obtain⟨Qu,V6⟩:=wR hh
    obtain⟨f1,f2⟩:=qx hfr
    rw[abm] at f2
    cases hs with
    | cons _ _ _ _ AQ CS=>
      simp only[JZ] at he
      split at he
      · rename_i c' l2 h1 h2
        cases he
        obtain⟨r1,b1⟩:=KZ h iV hK zA AQ hc rfl Qu h1
        obtain⟨r2,b2⟩:=K0 h iV hK zA ht CS V6 f1 h2
        refine⟨.cons _ _ _ _ _ _ _ r1 r2 lQ.left (lQ.right f2) (lQ.apart f2 λd d' b b' hb cP hne=>?_),λd b hb=>?_⟩
        · obtain⟨q,hq⟩:=b1 d b hb
          obtain⟨q',pV⟩:=b2 d' b' cP
          exact h.bX d d' q q' hq pV hne
        · rw[fZ] at hb
          cases hq:av (match (jU true id c).2 with | some b=>[(id,b)] | none=>[]) d with
          | none=>rw[hq] at hb;exact b2 d b hb
          | some q=>exact b1 d q hq
      · cases he
theorem SC (h:bz B W0 I0 I val fs σ a w)(iV:∀ x,I x->J x)(hK:bw I0 w0 w)(zA:∀ x,I0 x->J x){id:Nat}{c c':PV}{v:Value}{F:Ft}(hs:bI w0 I0 rF ph (jC true id c).1 v)(hc:jD w0 I0 c v F)
  (hh:mf σ rF (jC true id c).2) (hf:cV [] (jC true id c).2=true) (he:NT σ id c=some c'):jD w J c' v (lQ fs (jC true id c).2)/\∀ d b,av (jC true id c).2 d=some b->∃ b',av σ.bl d=some b':=by
 cases hc with
 | one _ _ _ hv=>
  have hne:∀ cs,c≠ .agg cs:=by rintro cs rfl;cases hv
  rw[Hw hne] at hs hh hf ⊢
  have e1:NT σ id c=Ac σ id c:=by cases c<;>first | rfl | exact absurd rfl (hne _)
  rw[e1] at he
  obtain⟨r1,b1⟩:=KZ h iV hK zA hs hv rfl hh he
  exact⟨.one _ _ _ r1,b1⟩
 | agg cs vs F hl=>
  simp only[NT] at he
  split at he
  ·rename_i cx h1
   cases he
   have Mu:bI w0 I0 rF ph (.agg (bJ true id cs).1) (.agg vs.toArray):=hs
   cases Mu with
   | leaf _ _ hlf _=>cases hlf
   | agg _ xf CS=>
    obtain⟨r1,b1⟩:=K0 h iV hK zA hl (by simpa using CS) hh hf h1
    exact⟨.agg _ _ _ r1,b1⟩
  cases he
theorem K1 (h:bz B W0 I0 I val fs σ a w)(iV:∀ x,I x->J x)(hK:bw I0 w0 w)(zA:∀ x,I0 x->J x):∀{l l':List PV} {vs:List Value} {F:Ft} {id:Nat},iE w0 I0 l vs F->aG w0 I0 rF ph (cJ true id l).1 vs->mf σ rF (cJ true id l).2->cV [] (cJ true id l).2=true->
  Df σ id l=some l'->iE w J l' vs (lQ fs (cJ true id l).2)/\∀ d b,av (cJ true id l).2 d=some b->∃ b',av σ.bl d=some b'
 | _,l',_,_,id,.nil _,_,_,_,he=>by
  simp only[Df,aaQ.injEq] at he;subst he
  exact⟨.nil _,λd b hd=>by cases hd⟩
 | _,l',_,_,id,.cons c l v vs F G H hc ht hF hG hd,hs,hh,hfr,he=>by
  have e2:(cJ true id (c::l)).2=(jC true id c).2++(cJ true (id+100000) l).2:=rfl
  have e1:(cJ true id (c::l)).1=(jC true id c).1::(cJ true (id+100000) l).1:=rfl
  rw[e1] at hs
  rw[e2] at hh hfr ⊢
  obtain⟨Qu,V6⟩:=wR hh
  obtain⟨f1,f2⟩:=qx hfr
  rw[abm] at f2
  have f0:cV [] (jC true id c).2=true:=(Ik f2)
  cases hs with
  | cons _ _ _ _ AQ CS=>
   simp only[Df] at he
   split at he
   ·rename_i c' l2 h1 h2
    cases he
    obtain⟨r1,b1⟩:=SC h iV hK zA AQ hc Qu f0 h1
    obtain⟨r2,b2⟩:=K1 h iV hK zA ht CS V6 f1 h2
    refine⟨.cons _ _ _ _ _ _ _ r1 r2 lQ.left (lQ.right f2) (lQ.apart f2 λd d' b b' hb cP hne=>?_),λd b hb=>?_⟩
    ·obtain⟨q,hq⟩:=b1 d b hb
     obtain⟨q',pV⟩:=b2 d' b' cP
     exact h.bX d d' q q' hq pV hne
    rw[fZ] at hb
    cases hq:av (jC true id c).2 d with
    | none=>rw[hq] at hb;exact b2 d b hb
    | some q=>exact b1 d q hq
   cases he
where
 Ik:∀{x y:List (Nat × aO)},cV y x=true->cV [] x=true
  | [],_,_=>rfl
  | (d,b)::x,y,h=>by
   obtain⟨h1,h2,h3⟩:=lC h
   simp only[cV,h2]
   exact Ik h3
end
theorem wS {hv:Nat->Value}:∀{bl:List (Nat × aO)} {d:Nat} {v:Value},hY (Eg hv bl) d=some v->hv d=v/\∃ b,av bl d=some b
 | [],d,v,h=>by cases h
 | (e,b)::bl,d,v,h=>by
  have h:hY ((e,hv e)::Eg hv bl) d=some v:=h
  rw[qE] at h
  rw[bQ]
  by_cases h0:e=d
  ·subst h0
   rw[if_pos rfl] at h ⊢
   cases h
   exact⟨rfl,_,rfl⟩
  rw[if_neg h0] at h ⊢
  exact wS h
theorem uA (own:Bool):∀(l:List PV) (id:Nat),(cJ own id l).1.length=l.length
 | [],_=>rfl
 | c::l,id=>by simp only[cJ,List.length_cons,uA own l]
theorem Mi (hT : fa P T) (hX : uz P X) {g : FuncId} {fn : Func} (hf : P.funcs[g]? = some fn) (hn : (fn.name == "runtime.NumGoroutine") = false) {args az : List PV} {r : PV} (ha : Eh T X fn args az r) : fo P g args az r := by
 unfold Eh at ha
 split at ha
 case h_2=>exact ha.elim
 rename_i c hc
 obtain⟨hfree,ha⟩:=ha
 refine⟨⟨fn,c,hf,hc,hn⟩,λw qJ I F K2 vs CR hI hF=>?_⟩
 refine calls_of_wp hf hc ?_
 have TP:∀ x,I x->¬ (F x\/w.heap.size<=x):=λx hx h=>h.elim (λh=>(hF x h).2 hx) (λh=>by have:=hI x hx;omega)
 have EO:bz (λx=>F x\/w.heap.size<=x) w I I (λ_=>undef) (λ_=>bf) {sl:=[],bl:=[]} {tmps:=#[],defers:=[]} w:=by
  refine{cC:=.nil,blocks:=λd b hb=>?_,bX:=λd d' b b' hb=>?_,dt:=λd b hb=>?_,new:=λd b hb=>?_,lt:=hI,eJ:=λx hx=>.inl hx,below:=Kept.refl _ _,size:=λx hx=>.inr hx,dP:=λd v hv=>(by cases hv),defers:=rfl}
  ·cases hb
  ·cases hb
  ·cases hb
  cases hb
 obtain⟨val,fs,hs,hrel,_,hbes⟩:=vo (id:=aM) EO CR (λx hx=>⟨.inl hx,(hF x hx).1⟩) (λx hx=>(hF x hx).2) (λx hx e b hb=>by cases hb) hfree
 have eapp:(cJ true aM args).2++([]:List (Nat × aO))=(cJ true aM args).2:=abm _
 have hrel:aG w I val (cJ true aM args).2 (cJ true aM args).1 vs:=by have:=hrel;rwa [show(({sl:=[],bl:=[]}:St).bl)=([]:List (Nat × aO)) from rfl,eapp] at this
 have hlen:vs.length=args.length:=by rw[hrel.len,uA]
 have hsim:bz (λx=>F x\/w.heap.size<=x) w I I val fs (BQ fn args val) {tmps:=vs.toArray++abR (fn.ntmps - vs.toArray.size) undef,defers:=[]} w:=by
  refine{cC:= ?_,blocks:=λd b hb=>?_,bX:=λd d' b b' hb cP=>?_,dt:=λd b hb=>?_,new:=λd b hb=>?_,lt:=hI,eJ:=λx hx=>.inl hx,below:=Kept.refl _ _,size:=λx hx=>.inr hx,dP:=λd v hv=>wS hv,defers:=rfl}
  ·have e:(vs.toArray++abR (fn.ntmps - vs.toArray.size) undef).toList=vs++aa0 (fn.ntmps - args.length) undef:=by simp[hlen]
   show aG w I val (cJ true aM args).2 ((cJ true aM args).1++aa0 (fn.ntmps - args.length) .aa) _
   rw[e]
   refine hrel.append ?_
   generalize fn.ntmps - args.length=n
   induction n with
   | zero=>exact .nil
   | succ n ih=>rw[abu,abu];exact .cons _ _ _ _ (.aa _) ih
  ·have:=hs.blocks d b (by show av ((cJ true aM args).2++[]) d=_;rw[eapp];exact hb)
   have this:iU w I val ((cJ true aM args).2++[]) b (val d) (fs d):=this
   rwa [eapp] at this
  ·exact hs.bX d d' b b' (by show av ((cJ true aM args).2++[]) d=_;rw[eapp];exact hb) (by show av ((cJ true aM args).2++[]) d'=_;rw[eapp];exact cP)
  ·exact hs.dt d b (by show av ((cJ true aM args).2++[]) d=_;rw[eapp];exact hb)
  exact hs.new d b (by show av ((cJ true aM args).2++[]) d=_;rw[eapp];exact hb)
 have fin:∀ σ a w',eo (λx=>F x\/w.heap.size<=x) w I σ a w'->(mf σ val (cJ true aM args).2/\Df σ aM args=some az/\∃ us,Dg T σ fn.results.toList=some us/\r=lB us)->
   a.defers=[]/\∃ v,(results fn a.tmps).run P w'=.ok v w'/\∃ J F',jK w' J r v bf/\iE w' J az vs F'/\(∀ x,F' x->(F x\/w.heap.size<=x)/\x < w'.heap.size)/\(∀ x,J x->(I x\/F x\/w.heap.size<=x)/\x < w'.heap.size/\¬ F' x)/\Kept (λx=>F x\/w.heap.size<=x) w w':=by
  intro σ a w' ⟨I1,qw,vn,hS⟩ ⟨hh,he,us,hus,hr⟩
  obtain⟨xs,hrun,hlen,KL⟩:=SB hT hS _ us hus
  have hJB:∀ x,(I x\/I1 x)->∀ d b,av σ.bl d=some b->¬ vn d x:=by
   intro x hx d b hb hf
   rcases hx with hx | hx
   ·exact TP x hx (hS.new d b hb x hf).1
   exact hS.dt d b hb x hf hx
  obtain⟨hT2,sS⟩:=K1 (J:=λx=>I x\/I1 x) (w0:=w) (rF:=val) (ph:=(cJ true aM args).2) hS (λx hx=>.inr hx) (λx hx=>hS.below.block x (TP x hx)) (λx hx=>.inl hx) CR hrel hh hfree he
  refine⟨hS.defers,_,rU hrun,λx=>I x\/I1 x,lQ vn (cJ true aM args).2,by rw[hr];exact(tD KL).tB (λx hx=>.inr hx),hT2,?_,λx hx=>⟨?_,?_,?_⟩,hS.below⟩
  ·rintro x ⟨d,b,hb,hx⟩
   obtain⟨b',cP⟩:=sS d b hb
   exact hS.new d b' cP x hx
  ·rcases hx with hx | hx
   ·exact .inl hx
   rcases hS.eJ x hx with h | h
   ·exact .inl h
   exact .inr h
  ·rcases hx with hx | hx
   ·exact Nat.lt_of_lt_of_le (hI x hx) hS.below.size
   exact hS.lt x hx
  rintro⟨d,b,hb,hf⟩
  obtain⟨b',cP⟩:=sS d b hb
  exact hJB x hx d b' cP hf
 refine vD hT ⟨hX,qJ,λg hg hb=>hb.elim (λhb=>K2 g hb hg) λhb=>by have:=qJ.lt g hg;omega⟩ c _ _ _ _ _ (λe σ a w' hs hq=>?_) ⟨I,val,_,hsim⟩ (ha val)
 cases e with
 | normal=>exact fin σ a w' hs hq
 | exit id=>exact hq.elim
 | ret=>exact fin σ a w' hs hq
theorem Mj (hT : fa P T) (hX : uz P X) {g : FuncId} {fn : Func} (hf : P.funcs[g]? = some fn) (hn : (fn.name == "runtime.NumGoroutine") = false) {args : List PV} {r : PV} (ha : Ei T X fn args r) : jh P g args r := by
 unfold Ei at ha
 split at ha
 case h_2=>exact ha.elim
 rename_i c hc
 obtain⟨hfree,ha⟩:=ha
 refine⟨⟨fn,c,hf,hc,hn⟩,λw qJ I F K2 vs CR hI hF=>?_⟩
 refine calls_of_wp hf hc ?_
 have TP:∀ x,I x->¬ (F x\/w.heap.size<=x):=λx hx h=>h.elim (λh=>(hF x h).2 hx) (λh=>by have:=hI x hx;omega)
 have EO:bz (λx=>F x\/w.heap.size<=x) w I I (λ_=>undef) (λ_=>bf) {sl:=[],bl:=[]} {tmps:=#[],defers:=[]} w:=by
  refine{cC:=.nil,blocks:=λd b hb=>?_,bX:=λd d' b b' hb=>?_,dt:=λd b hb=>?_,new:=λd b hb=>?_,lt:=hI,eJ:=λx hx=>.inl hx,below:=Kept.refl _ _,size:=λx hx=>.inr hx,dP:=λd v hv=>(by cases hv),defers:=rfl}
  ·cases hb
  ·cases hb
  ·cases hb
  cases hb
 obtain⟨val,fs,hs,hrel,_,hbes⟩:=vo (id:=aM) EO CR (λx hx=>⟨.inl hx,(hF x hx).1⟩) (λx hx=>(hF x hx).2) (λx hx e b hb=>by cases hb) hfree
 have eapp:(cJ true aM args).2++([]:List (Nat × aO))=(cJ true aM args).2:=abm _
 have hrel:aG w I val (cJ true aM args).2 (cJ true aM args).1 vs:=by have:=hrel;rwa [show(({sl:=[],bl:=[]}:St).bl)=([]:List (Nat × aO)) from rfl,eapp] at this
 have hlen:vs.length=args.length:=by rw[hrel.len,uA]
 have hsim:bz (λx=>F x\/w.heap.size<=x) w I I val fs (BQ fn args val) {tmps:=vs.toArray++abR (fn.ntmps - vs.toArray.size) undef,defers:=[]} w:=by
  refine{cC:= ?_,blocks:=λd b hb=>?_,bX:=λd d' b b' hb cP=>?_,dt:=λd b hb=>?_,new:=λd b hb=>?_,lt:=hI,eJ:=λx hx=>.inl hx,below:=Kept.refl _ _,size:=λx hx=>.inr hx,dP:=λd v hv=>wS hv,defers:=rfl}
  ·have e:(vs.toArray++abR (fn.ntmps - vs.toArray.size) undef).toList=vs++aa0 (fn.ntmps - args.length) undef:=by simp[hlen]
   show aG w I val (cJ true aM args).2 ((cJ true aM args).1++aa0 (fn.ntmps - args.length) .aa) _
   rw[e]
   refine hrel.append ?_
   generalize fn.ntmps - args.length=n
   induction n with
   | zero=>exact .nil
   | succ n ih=>rw[abu,abu];exact .cons _ _ _ _ (.aa _) ih
  ·have:=hs.blocks d b (by show av ((cJ true aM args).2++[]) d=_;rw[eapp];exact hb)
   have this:iU w I val ((cJ true aM args).2++[]) b (val d) (fs d):=this
   rwa [eapp] at this
  ·exact hs.bX d d' b b' (by show av ((cJ true aM args).2++[]) d=_;rw[eapp];exact hb) (by show av ((cJ true aM args).2++[]) d'=_;rw[eapp];exact cP)
  ·exact hs.dt d b (by show av ((cJ true aM args).2++[]) d=_;rw[eapp];exact hb)
  exact hs.new d b (by show av ((cJ true aM args).2++[]) d=_;rw[eapp];exact hb)
 have fin:∀ σ a w',eo (λx=>F x\/w.heap.size<=x) w I σ a w'->(∃ us,km T σ fn.results.toList=some us/\r=lB us)->
   a.defers=[]/\∃ v,(results fn a.tmps).run P w'=.ok v w'/\∃ J F',jK w' J r v F'/\(∀ x,F' x->(F x\/w.heap.size<=x)/\x < w'.heap.size)/\(∀ x,J x->(I x\/F x\/w.heap.size<=x)/\x < w'.heap.size/\¬ F' x)/\Kept (λx=>F x\/w.heap.size<=x) w w':=by
  intro σ a w' ⟨I1,qw,vn,hS⟩ ⟨us,hus,hr⟩
  obtain⟨xs,F1,hrun,hlen,aat,MT⟩:=tC hT _ σ hS us hus
  refine⟨hS.defers,_,rU hrun,I1,F1,by rw[hr];exact tD aat,λx hx=>?_,λx hx=>⟨?_,hS.lt x hx,λhf=>?_⟩,hS.below⟩
  ·obtain⟨d,b,hb,hfx⟩:=MT x hx;exact hS.new d b hb x hfx
  ·rcases hS.eJ x hx with h | h
   ·exact .inl h
   exact .inr h
  obtain⟨d,b,hb,hfx⟩:=MT x hf;exact hS.dt d b hb x hfx hx
 refine vD hT ⟨hX,qJ,λg hg hb=>hb.elim (λhb=>K2 g hb hg) λhb=>by have:=qJ.lt g hg;omega⟩ c _ _ _ _ _ (λe σ a w' hs hq=>?_) ⟨I,val,_,hsim⟩ (ha val)
 cases e with
 | normal=>exact fin σ a w' hs hq
 | exit id=>exact hq.elim
 | ret=>exact fin σ a w' hs hq
theorem jD.froze {J J':Ft}(hJ:∀ x,J x->J' x){c:PV}{v:Value}{F:Ft}(hF:∀ x,F x->J' x)(h:jD w J c v F):jD w J' (pe c) v bf:=by
 cases h with
 | one c v F h=>
  have hc:pe c=Av.erase c:=by cases c<;>first | rfl | cases h
  rw[hc]
  exact .one _ _ _ (h.erase hJ hF)
 | agg cs vs F h=>exact .agg _ _ _ (h.erase hJ hF)
theorem iE.froze {J J':Ft}(hJ:∀ x,J x->J' x):∀{l:List PV} {vs:List Value} {F:Ft},iE w J l vs F->(∀ x,F x->J' x)->iE w J' (Ee l) vs bf
 | _,_,_,.nil F,hF=>.nil _
 | _,_,_,.cons c l v vs F G H h t VW hG d,hF=>.cons _ _ _ _ bf bf bf (h.froze hJ (λx hx=>hF x (VW x hx))) (iE.froze hJ t (λx hx=>hF x (hG x hx))) (λ_ h=>h) (λ_ h=>h) (λ_ h=>h.elim)
theorem jK.froze {J J':Ft}(hJ:∀ x,J x->J' x){c:PV}{v:Value}{F:Ft}(hF:∀ x,F x->J' x)(h:jK w J c v F):jK w J' (froze c) v bf:=by
 cases h with
 | one c v F h=>
  have hc:Av.froze c=pe c:=by cases c<;>first | rfl | (cases h with | one _ _ _ h=>cases h)
  rw[hc]
  exact .one _ _ _ (h.froze hJ hF)
 | aw cs vs F h=>exact .aw _ _ _ (iE.froze hJ h hF)
theorem Mk (hT : fa P T) (hX : uz P X) {g : FuncId} {fn : Func} (hf : P.funcs[g]? = some fn) (hn : (fn.name == "runtime.NumGoroutine") = false) {cs args cx : List PV} {r : PV} (ha : Ej T X fn cs args cx r) : jA P g cs args cx r := by
 unfold Ej at ha
 split at ha
 case h_2=>exact ha.elim
 rename_i cd hcd
 obtain⟨hfree,hnl,ha⟩:=ha
 refine⟨⟨fn,cd,hf,hcd,hn⟩,λw qJ I F b t c vs rF K2 hb KL hargs hI hF hFb=>?_⟩
 refine calls_of_wp hf hcd ?_
 have TP:∀ x,I x->¬ ((F x\/x=b)\/w.heap.size<=x):=λx hx h=>h.elim (λh=>(hF x h).2 hx) (λh=>by have:=hI x hx;omega)
 have EO:bz (λx=>(F x\/x=b)\/w.heap.size<=x) w I I (λ_=>undef) (λ_=>bf) {sl:=[],bl:=[]} {tmps:=#[],defers:=[]} w:=by
  refine{cC:=.nil,blocks:=λd b hb=>?_,bX:=λd d' b b' hb=>?_,dt:=λd b hb=>?_,new:=λd b hb=>?_,lt:=hI,eJ:=λx hx=>.inl hx,below:=Kept.refl _ _,size:=λx hx=>.inr hx,dP:=λd v hv=>(by cases hv),defers:=rfl}
  ·cases hb
  ·cases hb
  ·cases hb
  cases hb
 obtain⟨qw,vn,AQ,hrow,_,hbes⟩:=vm (id:=aM+1000) EO KL (λx hx=>⟨.inl (.inl hx),(hF x (.inl hx)).1⟩) (λx hx=>(hF x (.inl hx)).2) (λx hx e b hb=>by cases hb) hfree
 have eapp:(bJ true (aM+1000) cs).2++([]:List (Nat × aO))=(bJ true (aM+1000) cs).2:=abm _
 have aau:bz (λx=>(F x\/x=b)\/w.heap.size<=x) w I I qw vn {sl:=[],bl:=(bJ true (aM+1000) cs).2} {tmps:=#[],defers:=[]} w:=AQ.reorder λd=>by show _=av ((bJ true (aM+1000) cs).2++[]) d;rw[eapp]
 have TQ:aG w I qw (bJ true (aM+1000) cs).2 (bJ true (aM+1000) cs).1 c.toList:=by have:=hrow;rwa [show(({sl:=[],bl:=[]}:St).bl)=([]:List (Nat × aO)) from rfl,eapp] at this
 let vb:aO:=⟨.var,cs.length,[(bJ true (aM+1000) cs).1]⟩
 have hlenr:(bJ true (aM+1000) cs).1.length=cs.length:=by rw[<- TQ.len,KL.len]
 have hEx:Ext (bJ true (aM+1000) cs).2 ((aM,vb)::(bJ true (aM+1000) cs).2) qw (eD qw aM (.pointer (some ⟨b,0,none⟩))):=ext_cons hnl
 have CS:=aau.qu (d:=aM) (b:=vb) (v:=.pointer (some ⟨b,0,none⟩)) (F:=λx=>x=b) hnl
  ⟨b,rfl,t,c,rfl,hb,aG.frame (bw.refl _ _) (λ_ h=>h) hEx TQ,hlenr,mE KL⟩
  (λx hx=>⟨.inl (.inr hx),(hF x (.inr hx)).1⟩) (λx hx=>(hF x (.inr hx)).2)
  (λx hx e q he hfx=>by
   subst hx
   have he:av ((bJ true (aM+1000) cs).2++([]:List (Nat × aO))) e=some q:=by rw[eapp];exact he
   rcases hbes e q he with ⟨h1,_⟩ | ⟨_,h2⟩
   ·cases h1
   exact hFb (h2 _ hfx))
 have hsim:bz (λx=>(F x\/x=b)\/w.heap.size<=x) w I I (eD qw aM (.pointer (some ⟨b,0,none⟩))) (eD vn aM (λx=>x=b)) (NU fn cs args (.pointer (some ⟨b,0,none⟩)))
   {tmps:=(Value.pointer (some ⟨b,0,none⟩)::vs).toArray++abR (fn.ntmps - (Value.pointer (some ⟨b,0,none⟩)::vs).toArray.size) undef,defers:=[]} w:=by
  refine{cC:= ?_,blocks:=CS.blocks,bX:=CS.bX,dt:=CS.dt,new:=CS.new,lt:=hI,eJ:=λx hx=>.inl hx,below:=Kept.refl _ _,size:=λx hx=>.inr hx,dP:=λd v hv=>?_,defers:=rfl}
  ·have hlen:=hargs.len
   have e:((Value.pointer (some ⟨b,0,none⟩)::vs).toArray++abR (fn.ntmps - (Value.pointer (some ⟨b,0,none⟩)::vs).toArray.size) undef).toList=(Value.pointer (some ⟨b,0,none⟩)::vs)++aa0 (fn.ntmps - (args.length+1)) undef:=by simp[hlen]
   show aG w I _ ((aM,vb)::(bJ true (aM+1000) cs).2) ((.pt aM 0 0::args)++aa0 (fn.ntmps - (args.length+1)) .aa) _
   rw[e]
   refine aG.append (.cons _ _ _ _ ?_ ?_) ?_
   ·have:=bI.pt (w:=w) (I:=I) (val:=eD qw aM (.pointer (some ⟨b,0,none⟩))) (bl:=(aM,vb)::(bJ true (aM+1000) cs).2) aM 0 0 vb b (by rw[bQ,if_pos rfl]) (by rw[cb];rfl)
    simpa using this
   ·exact aG.frame (bw.refl _ _) (λ_ h=>h) (λd b h=>by cases h) hargs
   generalize fn.ntmps - (args.length+1)=n
   induction n with
   | zero=>exact .nil
   | succ n ih=>rw[abu,abu];exact .cons _ _ _ _ (.aa _) ih
  have hv:(bif nq aM d then some (Value.pointer (some ⟨b,0,none⟩)) else none)=some v:=hv
  cases hq:nq aM d with
  | false=>rw[hq] at hv;cases hv
  | true=>
   rw[hq] at hv
   have hd:=eZ hq
   subst hd
   cases hv
   exact⟨cb _ _ _,vb,by show av ((aM,vb)::_) aM=_;rw[bQ,if_pos rfl]⟩
 have fin:∀ σ a w',eo (λx=>(F x\/x=b)\/w.heap.size<=x) w I σ a w'->(hY σ.hd aM=some (.pointer (some ⟨b,0,none⟩))/\∃ n row ki aA us,av σ.bl aM=some ⟨.var,n,[row]⟩/\ek σ row=some (cx,aA)/\av aA.bl aM=some ⟨.var,n,[ki]⟩/\km T (aA.drop aM) fn.results.toList=some us/\r=froze (lB us))->
   a.defers=[]/\∃ v,(results fn a.tmps).run P w'=.ok v w'/\∃ J F' c' t',w'.heap[b]? =some (.cells c' t' (0,0))/\bE w' J cx c'.toList F'/\jK w' J r v bf/\(∀ x,F' x->(F x\/w.heap.size<=x)/\x < w'.heap.size)/\(∀ x,J x->(I x\/F x\/w.heap.size<=x)/\x < w'.heap.size/\¬ F' x)/\Kept (λx=>(F x\/x=b)\/w.heap.size<=x) w w':=by
  intro σ a w' ⟨I1,wE,Em,hS⟩ ⟨hh,n,row,ki,aA,us,hblk,habs,gg,hus,hr⟩
  obtain⟨VY,_⟩:=hS.dP _ _ hh
  obtain⟨g0,hg0,t',c',hfg,mz,hrw,_,_⟩:=hS.var hblk
  rw[VY] at hg0
  have hg:g0=b:=by cases hg0;rfl
  subst hg
  obtain⟨F1,iW,xg,hgone,hsub,_⟩:=lO hS hrw habs
  obtain⟨xs,F2,hrun,hlen,CR,V5⟩:=tC hT _ _ (iW.drop aM) us hus
  have k2:∀ x,F2 x->∃ d q,d≠aM/\av aA.bl d=some q/\av σ.bl d≠none/\Em d x:=by
   intro x hx
   obtain⟨d,q,hq,hfx⟩:=V5 x hx
   obtain⟨q',hne,pV⟩:=H8 hq
   obtain⟨q2,nV,_⟩:=hsub d q' pV
   exact⟨d,q',hne,pV,by rw[nV];simp,hfx⟩
  have k2b:∀ x,F2 x->(F x\/w.heap.size<=x)/\x < w'.heap.size:=by
   intro x hx
   obtain⟨d,q,hne,hq,nV,hfx⟩:=k2 x hx
   obtain⟨q3,Il⟩:=Option.ne_none_iff_exists'.1 nV
   have h1:=hS.new d q3 Il x hfx
   refine⟨?_,h1.2⟩
   rcases h1.1 with (h | rfl) | h
   ·exact .inl h
   ·exact(hS.bX d aM _ _ Il hblk hne _ hfx hfg).elim
   exact .inr h
  have k1:∀ x,F1 x->(F x\/w.heap.size<=x)/\x < w'.heap.size:=by
   intro x hx
   obtain⟨d,q,hq,hnone,hfx⟩:=hgone x hx
   have h1:=hS.new d q hq x hfx
   refine⟨?_,h1.2⟩
   rcases h1.1 with (h | rfl) | h
   ·exact .inl h
   ·by_cases hne:d=aM
    ·subst hne
     rw[hnone] at gg;cases gg
    exact(hS.bX d aM _ _ hq hblk hne _ hfx hfg).elim
   exact .inr h
  refine⟨hS.defers,_,rU hrun,λx=>I1 x\/F2 x,F1,c',t',mz,bE.frame (bw.refl _ _) (λx hx=>.inl hx) xg (bw.refl _ _),by rw[hr];exact(tD CR).froze (λx hx=>.inl hx) (λx hx=>.inr hx),k1,λx hx=>⟨?_,?_,?_⟩,hS.below⟩
  ·rcases hx with hx | hx
   ·rcases hS.eJ x hx with h | (h | rfl) | h
    ·exact .inl h
    ·exact .inr (.inl h)
    ·exact(hS.dt _ _ hblk _ hfg hx).elim
    exact .inr (.inr h)
   exact .inr (k2b x hx).1
  ·rcases hx with hx | hx
   ·exact hS.lt x hx
   exact(k2b x hx).2
  intro iI
  obtain⟨d,q,hq,hnone,hfx⟩:=hgone x iI
  rcases hx with hx | hx
  ·exact hS.dt d q hq x hfx hx
  obtain⟨d',q',hne,pV,nV,aav⟩:=k2 x hx
  obtain⟨q3,Il⟩:=Option.ne_none_iff_exists'.1 nV
  have aaw:d≠d':=λh0=>by subst h0;rw[hnone] at pV;cases pV
  exact hS.bX d d' _ _ hq Il aaw x hfx aav
 refine vD hT ⟨hX,qJ,λg hg hb=>hb.elim (λhb=>K2 g hb hg) λhb=>by have:=qJ.lt g hg;omega⟩ cd _ _ _ _ _ (λe σ a w' hs hq=>?_) ⟨I,_,_,hsim⟩ (ha _)
 cases e with
 | normal=>exact fin σ a w' hs hq
 | exit id=>exact hq.elim
 | ret=>exact fin σ a w' hs hq
end
end Go.Av

/- Rules to walk a function by. -/
import Derived.Test.YtjbokkoiicoahaaGreatDoorAvt
namespace Go.Av
open Go Go.RowKit
set_option linter.unusedVariables false
set_option linter.unusedSimpArgs false
structure Alg where
 num:BinOp→IntKind→Int→Int→Int
 cmp:BinOp→Int→Int→Bool
 scmp:BinOp→ByteArray→ByteArray→Bool
 bnot:Bool→Bool
 beq:Bool→Bool→Bool
 aeq:List PV→List PV→Bool
 slen:ByteArray→Int
 cnv:IntKind→Int→Int
 ofB:List (List PV)→ByteArray
 rlen:List (List PV)→Int
def std :Alg where
 num op k a b:=match op with
  | .add=>k.wrap (a+b)
  | .sub=>k.wrap (a - b)
  | .mul=>k.wrap (a * b)
  | .quo=>k.wrap (a.tdiv b)
  | .rem=>a.tmod b
  | op=>(bitOp op k a b).getD 0
 cmp op a b:=match op with
  | .eql=>a == b
  | .neq=>a != b
  | .lss=>decide (a < b)
  | .leq=>decide (a≤b)
  | .gtr=>decide (a > b)
  | .geq=>decide (a ≥ b)
  | _=>false
 scmp op a b:=match op with
  | .eql=>a.toList == b.toList
  | .neq=> !(a.toList == b.toList)
  | .lss=>Op.bytesLess a.toList b.toList
  | _=>false
 bnot b:= !b
 beq a b:=a == b
 aeq l l':=pvEqL l l'
 slen s:=s.size
 cnv k n:=k.wrap n
 ofB r:=strOfNums (nums r)
 rlen r:=r.length
def intopA (A:Alg)(op:BinOp)(k:IntKind)(a b:Int):Option PV:=
 match op with
 | .add | .sub | .mul | .and | .or | .xor | .andNot=>some (.int k (A.num op k a b))
 | .quo | .rem=>bif decide (b=0) then none else some (.int k (A.num op k a b))
 | .eql | .neq | .lss | .leq | .gtr | .geq=>some (.bool (A.cmp op a b))
 | _=>none
def stropA (A:Alg)(op:BinOp)(a b:ByteArray):Option PV:=
 match op with
 | .eql | .neq | .lss=>some (.bool (A.scmp op a b))
 | _=>none
def binopA (A:Alg)(T:Tys)(op:BinOp)(t:TypeId)(x y:PV):Option PV:=
  match x,y with
  | .int k a,.int k' b=>bif kindB k k' then intopA A op k a b else none
  | .str a,.str b=>stropA A op a b
  | .bool a,.bool b=>match T t with
    | some ⟨.bool,_,_,_⟩=>match op with
      | .eql=>some (.bool (A.beq a b))
      | .neq=>some (.bool (A.bnot (A.beq a b)))
      | _=>none
    | _=>none
  | .agg l,.agg l'=>match T t with
    | some ⟨.struct _ true _,_,_,z⟩=>match sameK z l && sameK z l' with
      | true=>match op with
        | .eql=>some (.bool (A.aeq l l'))
        | .neq=>some (.bool (A.bnot (A.aeq l l')))
        | _=>none
      | false=>none
    | _=>none
  | _,_=>none
def lenA (A:Alg)(T:Tys)(σ:St)(t:TypeId)(x:PV):Option PV:=
  match T t with
  | some ⟨.slice _,_,_,_⟩=>match x with
    | .own d=>match blk σ.bl d with
      | some ⟨.arr,_,rows⟩=>some (.int .i64 (A.rlen rows))
      | some ⟨.lit,_,_⟩=>some (.int .i64 1)
      | _=>none
    | .sl _ rows=>some (.int .i64 (A.rlen rows))
    | .zc=>some (.int .i64 0)
    | _=>none
  | some ⟨.str,_,_,_⟩=>match x with
    | .str s=>some (.int .i64 (A.slen s))
    | _=>none
  | _=>none
def convA (A:Alg)(T:Tys)(σ:St)(dst:Option Tmp)(t t':TypeId)(x:PV):Option St:=
  match T t,T t' with
  | some ⟨ts,_,_,_⟩,some ⟨.int k,_,_,_⟩=>match ts,x with
    | .int _,.int _ n=>some (σ.put dst (.int k (A.cnv k n)))
    | _,_=>none
  | some ⟨.slice e,_,_,_⟩,some ⟨.str,_,_,_⟩=>match isU8 T e,rowsOf σ.bl x with
    | true,some rows=>bif bytesB rows then some (σ.put dst (.str (A.ofB rows))) else none
    | _,_=>none
  | _,_=>none
def stepA (A:Alg)(T:Tys)(σ:St)(o:Oper):Option St:=
  match o.op with
  | .binOp op t x y _=>match binopA A T op t (σ.get x) (σ.get y) with
    | some v=>some (σ.put o.dst v)
    | none=>none
  | .unOp .not _ x=>match σ.get x with
    | .bool t=>some (σ.put o.dst (.bool (A.bnot t)))
    | _=>none
  | .convert t t' x=>convA A T σ o.dst t t' (σ.get x)
  | .call c=>match c.callee,c.args.toList,c.argTypes.toList with
    | .builtin .len,[x],[t]=>match lenA A T σ t (σ.get x) with
      | some v=>some (σ.put o.dst v)
      | none=>none
    | _,_,_=>step T σ o
  | _=>step T σ o
theorem binopA_std {T:Tys}{op:BinOp}{t:TypeId}{x y v:PV}(h:binopA std T op t x y=some v):binopT T op t x y=some v:=by
  unfold binopA at h
  split at h
  · simp only[binopT,binop]
    rename_i k a k' b
    cases hk:kindB k k' with
    | false=>simp[hk] at h
    | true=>
      simp only[hk,cond_true] at h ⊢
      cases op<;>simp only[intopA,std,Option.some.injEq,reduceCtorEq] at h<;>first
        | (subst h;simp[intop,bitOp];done)
        | (cases hz:decide (b=0) with
           | true=>simp[hz] at h
           | false=>
             simp only[hz,cond_false,Option.some.injEq] at h
             subst h
             simp[intop,hz])
  · simp only[binopT,binop]
    cases op<;>simp only[stropA,std,Option.some.injEq,reduceCtorEq] at h<;>subst h<;>simp[strop]
  · simp only[binopT]
    exact h
  · simp only[binopT]
    exact h
  · cases h
theorem stepA_std {T:Tys}{σ σ':St}{o:Oper}(h:stepA std T σ o=some σ'):step T σ o=some σ':=by
 obtain⟨dst,op,type,pos,after,guard⟩:=o
 cases op<;>simp only[stepA] at h<;>try (exact h)
 case binOp bop t x y t'=>
  simp only[step]
  split at h
  ·rename_i v hv
   rw[binopA_std hv]
   exact h
  cases h
 case unOp u t x=>
  cases u<;>simp only at h<;>try (exact h)
 case call c=>
  split at h
  ·rename_i x t hc ha ht
   split at h
   ·rename_i v hv
    simp only[step,hc,ha,ht,stLen]
    simp only[Option.some.injEq] at h
    subst h
    unfold lenA at hv
    split at hv
    ·rename_i hT
     simp only[hT]
     split at hv
     ·rename_i d hx
      simp only[hx]
      split at hv
      ·rename_i hb
       simp only[hb]
       simp only[std,Option.some.injEq] at hv
       rw[hv]
      ·rename_i hb
       simp only[hb]
       simp only[Option.some.injEq] at hv
       rw[hv]
      cases hv
     ·rename_i hx
      simp only[hx]
      simp only[std,Option.some.injEq] at hv
      rw[hv]
     ·rename_i hx
      simp only[hx]
      simp only[Option.some.injEq] at hv
      rw[hv]
     cases hv
    ·rename_i hT
     simp only[hT]
     split at hv
     ·rename_i hx
      simp only[hx]
      simp only[std,Option.some.injEq] at hv
      rw[hv]
     cases hv
    cases hv
   cases h
  exact h
def runK (A:Alg)(T:Tys)(dr:Bool)(all:List Oper):Nat→List Oper→St→Option (List Oper × St)
  | 0,l,σ=>some (l,σ)
  | _+1,[],_=>none
  | n+1,o::l,σ=>match o.guard with
    | none=>match callOf σ o,(!dr || pureOp o) with
      | none,true=>match stepA A T σ o with
        | some σ'=>runK A T dr all n l σ'
        | none=>none
      | _,_=>none
    | some (j,want)=>match dstOf all j with
      | some t=>match getL σ.sl t,want with
        | .bool true,true=>match callOf σ o,(!dr || pureOp o) with
          | none,true=>match stepA A T σ o with
            | some σ'=>runK A T dr all n l σ'
            | none=>none
          | _,_=>none
        | .bool false,false=>match callOf σ o,(!dr || pureOp o) with
          | none,true=>match stepA A T σ o with
            | some σ'=>runK A T dr all n l σ'
            | none=>none
          | _,_=>none
        | .bool true,false=>runK A T dr all n l (σ.put o.dst (.tup []))
        | .bool false,true=>runK A T dr all n l (σ.put o.dst (.tup []))
        | .tup [],_=>runK A T dr all n l (σ.put o.dst (.tup []))
        | _,_=>none
      | none=>none
section
variable {P : Program} {A : Alg} {T : Tys} {X : Spec} {all l l' : List Oper} {σ σ' : St} {o : Oper} {K : St → Prop} {Q : AE → St → Prop}
theorem aop_step (hc:callOf σ o=none)(hs:step T σ o=some σ')(h:K σ'):aop T X o K σ:=by
 refine .inl ?_
 unfold aop0
 rw[hc]
 simp only[hs]
 exact h
theorem dop_step (hc:callOf σ o=none)(hp:pureOp o=true)(hs:step T σ o=some σ')(h:K σ'):dop T X o K σ:=by
 unfold dop
 rw[hc]
 simp only[hs,hp]
 exact h
theorem run_aops (hA:A=std):∀(n:Nat) (l l':List Oper) (σ σ':St),runK A T false all n l σ=some (l',σ')→aops T X all l' K σ'→aops T X all l K σ
 | 0,l,l',σ,σ',h,ha=>by
  simp only[runK,Option.some.injEq,Prod.mk.injEq] at h
  obtain⟨rfl,rfl⟩:=h
  exact ha
 | n+1,[],l',σ,σ',h,ha=>by simp[runK] at h
 | n+1,o::l,l',σ,σ',h,ha=>by
  simp only[runK] at h
  simp only[aops]
  have ih:=run_aops hA n
  split at h
  ·rename_i hg
   simp only[hg]
   split at h
   ·rename_i hc _
    split at h
    ·rename_i σ1 hs
     exact aop_step hc (stepA_std (hA ▸ hs)) (ih _ _ _ _ h ha)
    cases h
   cases h
  rename_i j want hg
  split at h
  case h_2=>cases h
  rename_i t ht
  simp only[hg,ht]
  split at h
  ·rename_i _ _ hb
   rw[hb]
   split at h
   ·rename_i hc _
    split at h
    ·rename_i σ1 hs
     exact⟨fun _=>aop_step hc (stepA_std (hA ▸ hs)) (ih _ _ _ _ h ha),fun h=>by cases h⟩
    cases h
   cases h
  ·rename_i _ _ hb
   rw[hb]
   split at h
   ·rename_i hc _
    split at h
    ·rename_i σ1 hs
     exact⟨fun _=>aop_step hc (stepA_std (hA ▸ hs)) (ih _ _ _ _ h ha),fun h=>by cases h⟩
    cases h
   cases h
  ·rename_i _ _ hb
   rw[hb]
   exact⟨fun h1=>(by cases h1),fun _=>ih _ _ _ _ h ha⟩
  ·rename_i _ _ hb
   rw[hb]
   exact⟨fun h1=>(by cases h1),fun _=>ih _ _ _ _ h ha⟩
  ·rename_i hb
   rw[hb]
   exact ih _ _ _ _ h ha
  cases h
theorem run_dops (hA:A=std):∀(n:Nat) (l l':List Oper) (σ σ':St),runK A T true all n l σ=some (l',σ')→dops T X all l' K σ'→dops T X all l K σ
 | 0,l,l',σ,σ',h,ha=>by
  simp only[runK,Option.some.injEq,Prod.mk.injEq] at h
  obtain⟨rfl,rfl⟩:=h
  exact ha
 | n+1,[],l',σ,σ',h,ha=>by simp[runK] at h
 | n+1,o::l,l',σ,σ',h,ha=>by
  simp only[runK,Bool.not_true,Bool.false_or] at h
  simp only[dops]
  have ih:=run_dops hA n
  split at h
  ·rename_i hg
   simp only[hg]
   split at h
   ·rename_i hc hp
    split at h
    ·rename_i σ1 hs
     exact dop_step hc hp (stepA_std (hA ▸ hs)) (ih _ _ _ _ h ha)
    cases h
   cases h
  rename_i j want hg
  split at h
  case h_2=>cases h
  rename_i t ht
  simp only[hg,ht]
  split at h
  ·rename_i _ _ hb
   rw[hb]
   split at h
   ·rename_i hc hp
    split at h
    ·rename_i σ1 hs
     exact⟨fun _=>dop_step hc hp (stepA_std (hA ▸ hs)) (ih _ _ _ _ h ha),fun h=>by cases h⟩
    cases h
   cases h
  ·rename_i _ _ hb
   rw[hb]
   split at h
   ·rename_i hc hp
    split at h
    ·rename_i σ1 hs
     exact⟨fun _=>dop_step hc hp (stepA_std (hA ▸ hs)) (ih _ _ _ _ h ha),fun h=>by cases h⟩
    cases h
   cases h
  ·rename_i _ _ hb
   rw[hb]
   exact⟨fun h1=>(by cases h1),fun _=>ih _ _ _ _ h ha⟩
  ·rename_i _ _ hb
   rw[hb]
   exact⟨fun h1=>(by cases h1),fun _=>ih _ _ _ _ h ha⟩
  ·rename_i hb
   rw[hb]
   exact ih _ _ _ _ h ha
  cases h
theorem ops_step (hg:o.guard=none)(hc:callOf σ o=none)(hs:step T σ o=some σ')(h:aops T X all l K σ'):aops T X all (o::l) K σ:=by
 simp only[aops,hg];exact aop_step hc hs h
theorem dops_step (hg:o.guard=none)(hc:callOf σ o=none)(hp:pureOp o=true)(hs:step T σ o=some σ')(h:dops T X all l K σ'):dops T X all (o::l) K σ:=by
 simp only[dops,hg];exact dop_step hc hp hs h
theorem ops_call {g:FuncId}{args:List PV}{d:Nat}(r:PV)(hg:o.guard=none)(hd:o.dst=some d)(hc:callOf σ o=some (g,args))(hX:X g (viewS σ.bl args) r)(hf:fresh r∨noHL args=true)(hfree:freeB σ.bl (bindR true d r).2=true)
  (h:aops T X all l K (σ.bind d r)):aops T X all (o::l) K σ:=by
 simp only[aops,hg]
 refine .inl ?_
 unfold aop0
 rw[hc,hd]
 exact⟨r,hX,hf,.inl ⟨hfree,h⟩⟩
theorem ops_callF {g:FuncId}{args:List PV}{d:Nat}(r:PV)(hg:o.guard=none)(hd:o.dst=some d)(hc:callOf σ o=some (g,args))(hX:X g (viewS σ.bl args) r)(hf:fresh r∨noHL args=true)
  (h:aops T X all l K (σ.put (some d) (froze r))):aops T X all (o::l) K σ:=by
 simp only[aops,hg]
 refine .inl ?_
 unfold aop0
 rw[hc,hd]
 exact⟨r,hX,hf,.inr h⟩
theorem dops_call {g:FuncId}{args:List PV}{d:Nat}(r:PV)(hg:o.guard=none)(hd:o.dst=some d)(hc:callOf σ o=some (g,args))(hX:X g (viewS σ.bl args) r)(hf:fresh r∨noHL args=true)
  (h:dops T X all l K (σ.put (some d) (froze r))):dops T X all (o::l) K σ:=by
 simp only[dops,hg]
 unfold dop
 rw[hc,hd]
 exact⟨r,hX,hf,h⟩
theorem setL_same :∀(l:List PV) (k:Nat),setL l k (getL l k)=l
 | [],_=>rfl
 | _::_,0=>rfl
 | c::l,k+1=>by simp[setL,getL,setL_same l k]
theorem put_same {k:Nat}{b:Bool}(hk:getL σ.sl k=.bool b):σ.put (some k) (.bool b)=σ:=by
 unfold St.put
 simp only
 rw[← hk,setL_same]
theorem ops_split (k:Nat){b:Bool}(hk:getL σ.sl k=.bool b)(h1:b=true→aops T X all l K (σ.put (some k) (.bool true)))(h0:b=false→aops T X all l K (σ.put (some k) (.bool false))):aops T X all l K σ:=by
 cases b
 ·have:=h0 rfl;rwa [put_same hk] at this
 have:=h1 rfl;rwa [put_same hk] at this
theorem dops_split (k:Nat){b:Bool}(hk:getL σ.sl k=.bool b)(h1:b=true→dops T X all l K (σ.put (some k) (.bool true)))(h0:b=false→dops T X all l K (σ.put (some k) (.bool false))):dops T X all l K σ:=by
 cases b
 ·have:=h0 rfl;rwa [put_same hk] at this
 have:=h1 rfl;rwa [put_same hk] at this
theorem ops_callM {g:FuncId}{args args1 args2:List PV}{r:PV}{bl':List (Nat × Blk)}(hg:o.guard=none)(hc:callOf σ o=some (g,args))(hl:lendS σ.bl args=some args1)(hnd:nodupB (ownsS args)=true)(hX:X.m g args1 args2 r)(hp:plainR r=true)
  (hb:backS σ.bl args args2=some bl') (h:aops T X all l K (St.put {σ with bl:=bl'} o.dst r)):aops T X all (o::l) K σ:=by
 simp only[aops,hg]
 exact .inr (.inl ⟨g,args,args1,args2,r,bl',hc,hl,hnd,hX,hp,hb,h⟩)
theorem ops_done (h:K σ):aops T X all [] K σ:=h
theorem aop0_mono {K K':St→Prop}(hk:∀ σ,K σ→K' σ)(h:aop0 T X o K σ):aop0 T X o K' σ:=by
 unfold aop0 at h ⊢
 split
 ·rename_i g args d hc hd
  rw[hc,hd] at h
  obtain⟨r,h1,h2,h3⟩:=h
  exact⟨r,h1,h2,h3.imp (fun h=>⟨h.1,hk _ h.2⟩) (hk _)⟩
 rename_i hno
 split at h
 ·rename_i g args d hc hd;exact absurd hd (hno g args d hc)
 split at h
 ·exact hk _ h
 exact h.elim
theorem aop_mono {K K':St→Prop}(hk:∀ σ,K σ→K' σ)(h:aop T X o K σ):aop T X o K' σ:=by
 rcases h with h | ⟨g,args,args1,args2,r,bl',h1,h2,h3,h4,h5,h6,h7⟩ | ⟨t,x,i,dd,d,a,j,sz,rows,r,s,nrows,h1,h2,h3,h4,h5,h6,h7,h8,h9,h10⟩ | ⟨op,t,x,y,t',e,sz0,by0,z0,rows,h1,h2,h3,h4,h5⟩ | ⟨g,args,args1,r,d,d0,h1,h2,h3,h4,h5,h6,h7⟩ | ⟨tw,h⟩ | ⟨σ1,h1,h2⟩
 ·exact .inl (aop0_mono hk h)
 ·exact .inr (.inl ⟨g,args,args1,args2,r,bl',h1,h2,h3,h4,h5,h6,hk _ h7⟩)
 ·exact .inr (.inr (.inl ⟨t,x,i,dd,d,a,j,sz,rows,r,s,nrows,h1,h2,h3,h4,h5,h6,h7,h8,h9,fun v=>hk _ (h10 v)⟩))
 ·exact .inr (.inr (.inr (.inl ⟨op,t,x,y,t',e,sz0,by0,z0,rows,h1,h2,h3,h4,h5.imp (fun h=>⟨h.1,fun b hb=>hk _ (h.2 b hb)⟩) (fun h=>⟨h.1,fun b hb=>hk _ (h.2 b hb)⟩)⟩)))
 ·exact .inr (.inr (.inr (.inr (.inl ⟨g,args,args1,r,d,d0,h1,h2,h3,h4,h5,h6,hk _ h7⟩))))
 ·exact .inr (.inr (.inr (.inr (.inr (.inl ⟨tw,aop0_mono (fun σ1 ⟨σ2,h1,h2⟩=>⟨σ2,h1,hk _ h2⟩) h⟩)))))
 exact .inr (.inr (.inr (.inr (.inr (.inr ⟨σ1,h1,hk _ h2⟩)))))
theorem dop_mono {K K':St→Prop}(hk:∀ σ,K σ→K' σ)(h:dop T X o K σ):dop T X o K' σ:=by
 unfold dop at h ⊢
 split
 ·rename_i g args d hc hd
  rw[hc,hd] at h
  obtain⟨r,h1,h2,h3⟩:=h
  exact⟨r,h1,h2,hk _ h3⟩
 rename_i hno
 split at h
 ·rename_i g args d hc hd;exact absurd hd (hno g args d hc)
 split at h
 ·exact hk _ h
 exact h.elim
theorem aops_mono {K K':St→Prop}(hk:∀ σ,K σ→K' σ):∀(l:List Oper) (σ:St),aops T X all l K σ→aops T X all l K' σ
 | [],σ,h=>hk σ h
 | o::l,σ,h=>by
  have ih:=aops_mono hk l
  simp only[aops] at h ⊢
  split
  ·rename_i hg;rw[hg] at h;exact aop_mono ih h
  rename_i j want hg
  simp only[hg] at h
  split
  ·rename_i t ht
   simp only[ht] at h
   split
   ·rename_i b hb
    rw[hb] at h
    exact⟨fun h1=>aop_mono ih (h.1 h1),fun h1=>ih _ (h.2 h1)⟩
   ·rename_i hb
    rw[hb] at h
    exact ih _ h
   rename_i h1 h2
   split at h
   ·rename_i b hb;exact absurd hb (h1 b)
   ·rename_i hb;exact absurd hb h2
   exact h
  rename_i ht;simp only[ht] at h
theorem dops_mono {K K':St→Prop}(hk:∀ σ,K σ→K' σ):∀(l:List Oper) (σ:St),dops T X all l K σ→dops T X all l K' σ
 | [],σ,h=>hk σ h
 | o::l,σ,h=>by
  have ih:=dops_mono hk l
  simp only[dops] at h ⊢
  split
  ·rename_i hg;rw[hg] at h;exact dop_mono ih h
  rename_i j want hg
  simp only[hg] at h
  split
  ·rename_i t ht
   simp only[ht] at h
   split
   ·rename_i b hb
    rw[hb] at h
    exact⟨fun h1=>dop_mono ih (h.1 h1),fun h1=>ih _ (h.2 h1)⟩
   ·rename_i hb
    rw[hb] at h
    exact ih _ h
   rename_i h1 h2
   split at h
   ·rename_i b hb;exact absurd hb (h1 b)
   ·rename_i hb;exact absurd hb h2
   exact h
  rename_i ht;simp only[ht] at h
theorem allRdy_mono {ops:Array Oper}{L:List Bool}{F G:Nat→Oper→Prop}(h:∀ i o,F i o→G i o):∀ l:List Nat,allRdy ops L F l→allRdy ops L G l
 | [],_=>trivial
 | i::l,hF=>by
  simp only[allRdy] at hF ⊢
  split
  ·rename_i o ho
   simp only[ho] at hF
   exact⟨h i o hF.1,allRdy_mono h l hF.2⟩
  rename_i ho
  simp only[ho] at hF
  exact allRdy_mono h l hF
theorem dwp_mono {ops:Array Oper}{K K':St→Prop}(hk:∀ σ,K σ→K' σ):∀(n:Nat) (L:List Bool) (σ:St),dwp T X ops K n L σ→dwp T X ops K' n L σ
 | 0,L,σ,h=>by obtain⟨tw,σ1,h1,h2⟩:=h;exact⟨tw,σ1,h1,hk _ h2⟩
 | n+1,L,σ,h=>by
  obtain⟨tw,σ1,h1,h2⟩:=h
  exact⟨tw,σ1,h1,allRdy_mono (fun i o ho=>aops_mono (fun σ2=>dwp_mono hk n _ σ2) _ _ ho) _ h2⟩
theorem awp_mono {c:Code}:∀{Q Q':AE→St→Prop} {σ:St},(∀ e σ,Q e σ→Q' e σ)→awp T X c Q σ→awp T X c Q' σ:=by
 induction c with
 | skip=>intro Q Q' σ hq h;exact hq _ _ h
 | region id ops dr=>
  intro Q Q' σ hq h
  cases dr
  ·obtain⟨tw,σ1,h1,h2⟩:=h
   exact⟨tw,σ1,h1,aops_mono (fun σ2 h3=>(by obtain⟨tw2,σ3,h4,h5⟩:=h3;exact⟨tw2,σ3,h4,hq .normal _ h5⟩)) _ _ h2⟩
  obtain⟨tw,σ1,h1,⟨h2,h3⟩ | ⟨h2,h3⟩⟩:=h
  ·exact⟨tw,σ1,h1,.inl ⟨h2,dops_mono (hq .normal) _ _ h3⟩⟩
  exact⟨tw,σ1,h1,.inr ⟨h2,dwp_mono (hq .normal) _ _ _ h3⟩⟩
 | seq x y ihx ihy=>
  intro Q Q' σ hq h
  refine ihx ?_ h
  intro e σ1 h1
  cases e with
  | normal=>exact ihy hq h1
  | exit id=>exact hq _ _ h1
  | ret=>exact hq _ _ h1
 | cond c x y ihx ihy=>
  intro Q Q' σ hq h
  simp only[awp] at h ⊢
  split
  ·rename_i t ht
   rw[ht] at h
   exact⟨fun h1=>ihx hq (h.1 h1),fun h1=>ihy hq (h.2 h1)⟩
  rename_i hno
  split at h
  ·rename_i t ht;exact absurd ht (hno t)
  exact h
 | block id b ih=>
  intro Q Q' σ hq h
  refine ih ?_ h
  intro e σ1 h1
  cases e with
  | normal=>exact hq _ _ h1
  | exit id'=>exact⟨fun h2=>hq _ _ (h1.1 h2),fun h2=>hq _ _ (h1.2 h2)⟩
  | ret=>exact hq _ _ h1
 | loop b ih=>
  intro Q Q' σ hq h
  obtain⟨tw,σ0,ks,ds,I,n,h1,h2,h3⟩:=h
  refine⟨tw,σ0,ks,ds,I,n,h1,h2,fun σ1 m hI=>ih ?_ (h3 σ1 m hI)⟩
  intro e σ2 h4
  cases e with
  | normal=>exact h4
  | exit id=>exact hq _ _ h4
  | ret=>exact hq _ _ h4
 | exit id=>intro Q Q' σ hq h;exact hq _ _ h
 | ret=>intro Q Q' σ hq h;exact hq _ _ h
 | _=>intro Q Q' σ hq h;exact h.elim
theorem go_reg {id:Nat}{ops:Array Oper}(h:aops T X ops.toList ops.toList (Q .normal) σ):awp T X (.region id ops false) Q σ:=⟨[],σ,rfl,aops_mono (fun σ2 h3=>⟨[],σ2,rfl,h3⟩) _ _ h⟩
theorem go_regB {id:Nat}{ops:Array Oper}(h:aops T X ops.toList ops.toList (fun σ1=>∃ tw2 σ2,tweak σ1 tw2=some σ2∧Q .normal σ2) σ):awp T X (.region id ops false) Q σ:=⟨[],σ,rfl,h⟩
theorem go_draw {id:Nat}{ops:Array Oper}(rk:List Nat)(hd:okDraw rk ops=true)(h:dops T X ops.toList ops.toList (Q .normal) σ):awp T X (.region id ops true) Q σ:=⟨[],σ,rfl,.inl ⟨⟨rk,hd⟩,h⟩⟩
theorem go_cond {c:Operand}{x y:Code}{t:Bool}(hc:σ.get c=.bool t)(h1:t=true→awp T X x Q σ)(h0:t=false→awp T X y Q σ):awp T X (.cond c x y) Q σ:=by
 simp only[awp,hc];exact⟨h1,h0⟩
theorem go_exit {id:Nat}(h:Q (.exit id) σ):awp T X (.exit id) Q σ:=h
theorem go_block {id:Nat}{b:Code}(h:awp T X b (fun e σ'=>match e with | .exit id'=>(id'=id→Q .normal σ')∧(id'≠id→Q (.exit id') σ') | e=>Q e σ') σ):awp T X (.block id b) Q σ:=h
theorem afun_of {fn:Func}{c:Code}{args:List PV}{r:PV}(hb:fn.body=some c)
  (h:awp T X c (fun e σ=>match e with
  | .exit _=>False
  | _=>∃ vs,closeL T σ fn.results.toList=some vs∧r=tupOf vs) (initS fn args)):afun T X fn args r:=by
 unfold afun;rw[hb];exact h
end
end Go.Av

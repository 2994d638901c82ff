/- What is left of a budget; lists as rows. -/
import Derived.Test.YtjbokkoiicoahaaGreatDoorAvq
namespace Go.Av
open Go Go.RowKit
set_option linter.unusedVariables false
set_option linter.unusedSimpArgs false
theorem wrap_id {x:Int}(h1: -9223372036854775808≤x)(h2:x≤9223372036854775807):IntKind.i64.wrap x=x:=by
 unfold IntKind.wrap
 have e1:(2:Int) ^ IntKind.i64.bits=18446744073709551616:=by decide
 have e2:(2:Int) ^ (IntKind.i64.bits - 1)=9223372036854775808:=by decide
 have e3:IntKind.i64.signed=true:=rfl
 simp only[e1,e2,e3,Bool.true_and]
 split
 ·rename_i h;simp only[ge_iff_le,decide_eq_true_eq] at h;omega
 rename_i h;simp only[ge_iff_le,decide_eq_true_eq] at h;omega
theorem tl_loop (bs:ByteArray):∀(n i:Nat) (r:List UInt8),bs.size - i=n→ByteArray.toList.loop bs i r=r.reverse++bs.data.toList.drop i
 | 0,i,r,h=>by
  rw[ByteArray.toList.loop,if_neg (by omega),List.drop_of_length_le (by show bs.data.toList.length≤i;simp only[Array.length_toList];show bs.size≤i;omega),List.append_nil]
 | n+1,i,r,h=>by
  have hlt:i < bs.data.size:=by show i < bs.size;omega
  rw[ByteArray.toList.loop,if_pos (by omega),tl_loop bs n (i+1) _ (by omega)]
  have hd:bs.data.toList.drop i=bs.data[i]::bs.data.toList.drop (i+1):=by
   rw[List.drop_eq_getElem_cons (by simpa using hlt)];simp
  rw[hd,List.reverse_cons,List.append_assoc]
  have:bs.get! i=bs.data[i]:=by
   unfold ByteArray.get!
   exact getElem!_pos bs.data i hlt
  rw[this];rfl
theorem tl_data (s:ByteArray):s.toList=s.data.toList:=by
 unfold ByteArray.toList
 rw[tl_loop s _ 0 [] rfl]
 simp
theorem tl_nil {s:ByteArray}(h:s.toList=[]):s.size=0:=by
 rw[tl_data] at h
 show s.data.size=0
 rw[← Array.length_toList,h]
 rfl
theorem tl_inj {a b:ByteArray}(h:a.toList=b.toList):a=b:=by
 rw[tl_data,tl_data] at h
 obtain⟨⟨a⟩⟩:=a
 obtain⟨⟨b⟩⟩:=b
 simp only at h
 rw[h]
def fill {α:Type}(f:α→List PV)(z:List PV)(xs:List α)(i:Nat):List (List PV):=(xs.take i).map f++List.replicate (xs.length - i) z
theorem fill_zero {α:Type}(f:α→List PV)(z:List PV)(xs:List α):fill f z xs 0=List.replicate xs.length z:=by simp[fill]
theorem fill_all {α:Type}(f:α→List PV)(z:List PV)(xs:List α){i:Nat}(h:xs.length≤i):fill f z xs i=xs.map f:=by
 simp[fill,List.take_of_length_le h,Nat.sub_eq_zero_of_le h]
theorem fill_len {α:Type}(f:α→List PV)(z:List PV)(xs:List α){i:Nat}(h:i≤xs.length):(fill f z xs i).length=xs.length:=by simp[fill];omega
theorem fill_at {α:Type}(f:α→List PV)(z:List PV)(xs:List α){i:Nat}(h:i < xs.length):(fill f z xs i)[i]? =some z:=by
 unfold fill
 rw[List.getElem?_append_right (by simp;omega)]
 simp[List.getElem?_replicate]
 omega
theorem fill_set {α:Type}(f:α→List PV)(z:List PV)(xs:List α){i:Nat}{x:α}(h:xs[i]? =some x):(fill f z xs i).set i (f x)=fill f z xs (i+1):=by
 have hlt:i < xs.length:=(List.getElem?_eq_some_iff.1 h).1
 have hx:xs[i]=x:=(List.getElem?_eq_some_iff.1 h).2
 unfold fill
 rw[List.set_append_right _ _ (by simp;omega),List.take_add_one,h]
 have:xs.length - i=(xs.length - (i+1))+1:=by omega
 rw[this,List.replicate_succ]
 have h0:i - (List.map f (List.take i xs)).length=0:=by simp;omega
 rw[h0]
 simp
section
variable {T : Tys} {σ : St} {o : Oper}
theorem idx_sl {t e:TypeId}{x ix:Operand}{a b:Nat}{c:List PV}{ie:TI}{sz:Nat}{rows:List (List PV)}{k:IntKind}{n:Int}{r:List PV}(ho:o.op=.indexAddr t x ix)(hT:T t=some ⟨.slice e,a,b,c⟩)(hTe:T e=some ie)
  (hx:σ.get x=.sl sz rows) (hix:σ.get ix=.int k n) (hn:0≤n) (hs:nq sz ie.size=true) (hr:rows[n.toNat]? =some r):step T σ o=some (σ.put o.dst (.rd r)):=by
 simp only[step,ho,stIndexAddr,hT,hTe,hx,hix,hs,hr,hn,decide_true,Bool.true_and]
theorem idx_own {t e:TypeId}{x ix:Operand}{a b:Nat}{c:List PV}{ie:TI}{d:Nat}{bk:Blk}{k:IntKind}{n:Int}(ho:o.op=.indexAddr t x ix)(hT:T t=some ⟨.slice e,a,b,c⟩)(hTe:T e=some ie)
  (hx:σ.get x=.own d) (hix:σ.get ix=.int k n) (hb:blk σ.bl d=some bk) (hn:0≤n) (hl:n < bk.rows.length) (hs:nq bk.sz ie.size=true):step T σ o=some (σ.put o.dst (.pt d n.toNat 0)):=by
 simp only[step,ho,stIndexAddr,hT,hTe,hx,hix,hb,hn,hl,hs,decide_true,Bool.true_and]
theorem ops_callV {X:Spec}{all l:List Oper}{K:St→Prop}{g:FuncId}{args args':List PV}{d:Nat}{r:PV}(hg:o.guard=none)(hd:o.dst=some d)(hc:callOf σ o=some (g,args))(hv:viewS σ.bl args=args')(hX:X g args' r)
 (hf:fresh r∨noHL args=true) (hfree:freeB σ.bl (bindR true d r).2=true) (h:aops T X all l K (σ.bind d r)):aops T X all (o::l) K σ:=ops_call r hg hd hc (hv ▸ hX) hf hfree h
theorem cvw {X:Spec}{all l:List Oper}{K:St→Prop}{g:FuncId}{args args':List PV}{d:Nat}{r:PV}(hX:X g args' r)(hf:fresh r∨noHL args=true)(h:aops T X all l K (σ.bind d r))(hg:o.guard=none:=by exact rfl)(hd:o.dst=some d:=by exact rfl)
 (hc:callOf σ o=some (g,args):=by cbv) (hv:viewS σ.bl args=args':=by cbv) (hfree:freeB σ.bl (bindR true d r).2=true:=by cbv):aops T X all (o::l) K σ:=ops_callV hg hd hc hv hX hf hfree h
theorem ops_callVF {X:Spec}{all l:List Oper}{K:St→Prop}{g:FuncId}{args args':List PV}{d:Nat}{r:PV}(hg:o.guard=none)(hd:o.dst=some d)(hc:callOf σ o=some (g,args))(hv:viewS σ.bl args=args')(hX:X g args' r)
 (hf:fresh r∨noHL args=true) (h:aops T X all l K (σ.put (some d) (froze r))):aops T X all (o::l) K σ:=ops_callF r hg hd hc (hv ▸ hX) hf h
theorem dops_callV {X:Spec}{all l:List Oper}{K:St→Prop}{g:FuncId}{args args':List PV}{d:Nat}{r:PV}(hg:o.guard=none)(hd:o.dst=some d)(hc:callOf σ o=some (g,args))(hv:viewS σ.bl args=args')(hX:X g args' r)
 (hf:fresh r∨noHL args=true) (h:dops T X all l K (σ.put (some d) (froze r))):dops T X all (o::l) K σ:=dops_call r hg hd hc (hv ▸ hX) hf h
theorem sto_arr {t:TypeId}{x v:Operand}{i:TI}{d j0 j sz:Nat}{rows rows':List (List PV)}{cs:List PV}{r:List PV}{σ1:St}(ho:o.op=.store t x v)(hd:o.dst=none)(hT:T t=some i)(hx:σ.get x=.pt d j0 j)
  (hlen:nq (cellsOf (σ.get v)).length i.size=true) (hb0:∃ s r,blk σ.bl d=some ⟨.arr,s,r⟩) (ha:absorbL σ (cellsOf (σ.get v))=some (cs,σ1)) (hb:blk σ1.bl d=some ⟨.arr,sz,rows⟩) (hr:rows[j0]? =some r) (hle:nle (j+i.size) r.length=true)
  (hrows:rows'=rows.set j0 (overL r j cs)):step T σ o=some {σ1 with bl:=setB σ1.bl d ⟨.arr,sz,rows'⟩}:=by
 obtain⟨s0,r0,hb0⟩:=hb0
 subst hrows
 simp only[step,ho,hd,stStore,hT,hx,hlen,hb0,ha,hb,hr,hle]
theorem mk_arr {t e:TypeId}{l c:Operand}{a b:Nat}{z:List PV}{ie:TI}{d:Nat}{n:Int}{rows:List (List PV)}(ho:o.op=.makeSlice t l c)(hd:o.dst=some d)(hT:T t=some ⟨.slice e,a,b,z⟩)(hTe:T e=some ie)
  (hl:σ.get l=.int .i64 n) (hc:σ.get c=.int .i64 n) (hn:0≤n) (hmax:n * ie.bytes≤140737488355328) (hby:0 < ie.bytes) (hsz:0 < ie.size) (hfree:blk σ.bl d=none) (hrows:rows=List.replicate n.toNat ie.zero):
  step T σ o=some {σ with sl:=setL σ.sl d (.own d),bl:=(d,⟨.arr,ie.size,rows⟩)::σ.bl}:=by
 subst hrows
 simp only[step,ho,hd,stMakeSlice,hT,hTe,hl,hc,hn,hmax,hby,hsz,hfree,decide_true,Bool.true_and,Bool.and_self]
theorem ops_guard {X:Spec}{all l:List Oper}{K:St→Prop}{j:Nat}{t:Tmp}{want:Bool}(hg:o.guard=some (j,want))(hd:dstOf all j=some t)(hb:getL σ.sl t=.bool want)(h:aop T X o (aops T X all l K) σ):aops T X all (o::l) K σ:=by
 simp only[aops,hg,hd,hb]
 exact⟨fun _=>h,fun h1=>by cases want<;>cases h1⟩
theorem ops_stepG {X:Spec}{all l:List Oper}{K:St→Prop}{j:Nat}{t:Tmp}{want:Bool}{σ':St}(hg:o.guard=some (j,want))(hd:dstOf all j=some t)(hb:getL σ.sl t=.bool want)(hc:callOf σ o=none)(hs:step T σ o=some σ')
 (h:aops T X all l K σ'):aops T X all (o::l) K σ:=ops_guard hg hd hb (aop_step hc hs h)
theorem ops_callG {X:Spec}{all l:List Oper}{K:St→Prop}{j:Nat}{t:Tmp}{want:Bool}{g:FuncId}{args args':List PV}{d:Nat}{r:PV}(hg:o.guard=some (j,want))(hdj:dstOf all j=some t)(hb:getL σ.sl t=.bool want)(hd:o.dst=some d)
  (hc:callOf σ o=some (g,args)) (hv:viewS σ.bl args=args') (hX:X g args' r) (hf:fresh r∨noHL args=true) (hfree:freeB σ.bl (bindR true d r).2=true) (h:aops T X all l K (σ.bind d r)):aops T X all (o::l) K σ:=by
 refine ops_guard hg hdj hb ?_
 refine .inl ?_
 unfold aop0
 rw[hc,hd]
 exact⟨r,hv ▸ hX,hf,.inl ⟨hfree,h⟩⟩
theorem slc_sl {t e:TypeId}{x:Operand}{lo hi:Option Operand}{a b:Nat}{c:List PV}{ie:TI}{sz:Nat}{rows rows':List (List PV)}{l h:Int}(ho:o.op=.slice t x lo hi none)(hT:T t=some ⟨.slice e,a,b,c⟩)(hTe:T e=some ie)
  (hx:σ.get x=.sl sz rows) (hlo:boundOf σ 0 lo=some l) (hhi:boundOf σ rows.length hi=some h) (h0:0≤l) (h1:l≤h) (h2:h≤rows.length) (hs:nq sz ie.size=true) (hr:rows'=(rows.drop l.toNat).take (h.toNat - l.toNat)):
  step T σ o=some (σ.put o.dst (.sl sz rows')):=by
 subst hr
 simp only[step,ho,stSlice,hT,hTe,hx,hlo,hhi,h0,h1,h2,hs,decide_true,Bool.true_and,Bool.and_self]
end
end Go.Av
namespace Go.Av
open Go Go.RowKit
set_option linter.unusedVariables false
set_option linter.unusedSimpArgs false
def chain :Int→List Nat→Int
 | n,[]=>n
 | n,k::l=>if n - k < 0 then -1 else chain (n - k) l
theorem chain_ge :∀(l:List Nat) (n:Int),-1≤n→ -1≤chain n l
 | [],n,h=>h
 | k::l,n,h=>by
  unfold chain
  split
  ·omega
  exact chain_ge l _ (by omega)
theorem chain_le :∀(l:List Nat) (n:Int),-1≤n→chain n l≤n
 | [],n,h=>Int.le_refl _
 | k::l,n,h=>by
  unfold chain
  split
  ·omega
  have:=chain_le l (n - k) (by omega)
  omega
theorem chain_cons (n:Int)(k:Nat)(l:List Nat):chain n (k::l)=if n - k < 0 then -1 else chain (n - k) l:=rfl
theorem chain_app :∀(a b:List Nat) (n:Int),0≤chain n a→chain n (a++b)=chain (chain n a) b
 | [],b,n,h=>rfl
 | k::a,b,n,h=>by
  by_cases h1:n - k < 0
  ·rw [chain_cons,if_pos h1] at h;omega
  rw[chain_cons,if_neg h1] at h
  rw[List.cons_append,chain_cons,if_neg h1,chain_cons,if_neg h1]
  exact chain_app a b _ h
theorem chain_neg :∀(a b:List Nat) (n:Int),0≤n→chain n a < 0→chain n (a++b)= -1
 | [],b,n,h0,h=>by unfold chain at h;omega
 | k::a,b,n,h0,h=>by
  rw[List.cons_append]
  unfold chain at h ⊢
  split
  ·rfl
  rename_i h1
  rw[if_neg h1] at h
  exact chain_neg a b _ (by omega) h
theorem chain_all :∀(l:List Nat) (n:Int),0≤chain n l→∀ k∈l,(k:Int)≤n
 | [],n,h,k,hk=>by simp at hk
 | j::l,n,h,k,hk=>by
  unfold chain at h
  split at h
  ·omega
  rename_i h1
  simp only[List.mem_cons] at hk
  rcases hk with rfl | hk
  ·omega
  have:=chain_all l _ h k hk
  omega
theorem take_flat {α β:Type}(f:α→List β)(xs:List α){i:Nat}{x:α}(h:xs[i]? =some x):(xs.take (i+1)).flatMap f=(xs.take i).flatMap f++f x:=by
 rw[List.take_add_one,h]
 simp
theorem flat_split {α β:Type}(f:α→List β)(xs:List α)(i:Nat):xs.flatMap f=(xs.take i).flatMap f++(xs.drop i).flatMap f:=by
 rw[← List.flatMap_append,List.take_append_drop]
theorem map_at {α:Type}(f:α→List PV){xs:List α}{ra:List (List PV)}(h:ra=xs.map f){i:Nat}{x:α}(hx:xs[i]? =some x):ra[i]? =some (f x):=by
 rw[h];simp[hx]
theorem eraseR_map {α:Type}(f g:α→List PV)(h:∀ x,eraseL (f x)=g x):∀ xs:List α,eraseR (xs.map f)=xs.map g
 | []=>rfl
 | x::xs=>by
  show eraseL (f x)::eraseR (xs.map f)=g x::xs.map g
  rw[h,eraseR_map f g h xs]
theorem rows_of {α:Type}{s:Sh}(f:α→List PV)(p:α→Prop)(h:∀ r,s.Is r→∃ x,r=f x∧p x):∀ rows:List (List PV),(∀ r∈rows,s.Is r)→∃ xs:List α,rows=xs.map f∧∀ x∈xs,p x
 | [],_=>⟨[],rfl,fun x hx=>by simp at hx⟩
 | r::rows,hr=>by
  obtain⟨x,rfl,hp⟩:=h r (hr r (by simp))
  obtain⟨xs,rfl,hps⟩:=rows_of f p h rows fun r' hr'=>hr r' (by simp[hr'])
  exact⟨x::xs,rfl,fun y hy=>by
   simp only[List.mem_cons] at hy
   rcases hy with rfl | hy
   ·exact hp
   exact hps y hy⟩
end Go.Av

/- Structs of numbers, flags and texts alone, compared. -/
import Derived.Test.YtjbokkoiicoahaaGreatDoorAv
import Derived.Laws.AppendOwn
import Derived.Laws.StructEq
namespace Go.Av
open Go Go.RowKit
set_option linter.unusedVariables false
abbrev Ft :=Nat→Prop
def none' :Ft:=fun _=>False
def OwnsW (w:World)(base:Nat)(e:TypeId)(size:Nat)(v:Value)(n:Nat)(xs:List Value):Prop:=
  xs.length=n * size∧
  ((v=.slice none 0 0∧n=0)∨
   ∃ g cap cur,v=.slice (some ⟨g,0,none⟩) n cap∧base≤g∧w.heap[g]? =some (.cells cur e (0,0))∧n≤cap∧cap≤maxLen∧cap * size≤cur.size∧cur.toList.take (n * size)=xs)
theorem OwnsW.nil (w:World)(base:Nat)(e:TypeId)(size:Nat):OwnsW w base e size (.slice none 0 0) 0 []:=⟨by simp,.inl ⟨rfl,rfl⟩⟩
theorem OwnsW.of {w:World}{base:Nat}{e:TypeId}{size:Nat}{v:Value}{n:Nat}{xs:List Value}(h:w.ownsRow base e size v n xs):OwnsW w base e size v n xs:=by
 refine⟨h.1,?_⟩
 rcases h.2 with h2 | ⟨g,cap,cur,hv,hg,hh,h1,h3,h4,h5⟩
 ·exact .inl h2
 exact .inr ⟨g,cap,cur,hv,hg,hh,h1,h3,Nat.le_of_eq h4.symm,h5⟩
theorem OwnsW.lt {w:World}{base:Nat}{e:TypeId}{size:Nat}{v:Value}{n:Nat}{xs:List Value}(h:OwnsW w base e size v n xs):∀ k,v.ownBlock=some k→base≤k∧k < w.heap.size:=by
 intro k hk
 rcases h.2 with ⟨rfl,_⟩ | ⟨g,cap,cur,rfl,hb,hg,_⟩
 ·simp [Value.ownBlock] at hk
 simp[Value.ownBlock] at hk
 subst hk
 exact⟨hb,(Array.getElem?_eq_some_iff.1 hg).1⟩
theorem OwnsW.cells {w:World}{base:Nat}{e:TypeId}{size:Nat}{v:Value}{n:Nat}{xs:List Value}{g:Nat}(h:OwnsW w base e size v n xs)(hob:v.ownBlock=some g):∀(j:Nat) (u:Value),xs[j]? =some u→w.cell? ((⟨g,0,none⟩:Addr).add j)=some u:=by
 intro j u hj
 rcases h.2 with ⟨rfl,_⟩ | ⟨g',cap,cur,rfl,hb,hg,_,_,_,ht⟩
 ·simp [Value.ownBlock] at hob
 have e1:g'=g:=by simpa [Value.ownBlock] using hob
 subst e1
 rw[← ht,List.getElem?_take] at hj
 split at hj
 ·rw [Array.getElem?_toList] at hj
  rw[Addr.add_lit]
  simp[World.cell?,hg,hj]
 cases hj
mutual
inductive RelV (w:World)(I:Ft):PV→Value→Ft→Prop
 | int (k:IntKind) (n:Int) (F:Ft):RelV w I (.int k n) (.int k n) F
 | bool (b:Bool) (F:Ft):RelV w I (.bool b) (.bool b) F
 | str (s:ByteArray) (F:Ft):RelV w I (.str s) (.string s) F
 | zc (F:Ft):RelV w I .zc (.slice none 0 0) F
 | raw (v:Value) (F:Ft) (h1:v.oneCell'=true):RelV w I (.raw v) v F
 | bad (v:Value) (F:Ft) (h1:v.oneCell'=true):RelV w I .bad v F
 | slnil (sz:Nat) (F:Ft):RelV w I (.sl sz []) (.slice none 0 0) F
 | sl (sz:Nat) (rows:List (List PV)) (a:Addr) (cap:Nat) (vs:List Value) (F:Ft) (hu:∀ r∈rows,r.length=sz) (hI:¬ rows=[]→I a.block) (hs:¬ rows=[]→a.spot=none)
   (hc:∀(j:Nat) (u:Value),vs[j]? =some u→w.cell? (a.add j)=some u) (hr:RelL w I rows.flatten vs none') (hcap:rows.length≤cap):RelV w I (.sl sz rows) (.slice (some a) rows.length cap) F
 | ow (sz:Nat) (rows:List (List PV)) (v:Value) (e:TypeId) (xs:List Value) (F G:Ft) (hu:∀ r∈rows,r.length=sz) (how:OwnsW w 0 e sz v rows.length xs)
   (hr:RelL w I rows.flatten xs G) (hG:∀ b,G b→F b) (hb:∀ b,v.ownBlock=some b→F b∧¬ G b):RelV w I (.ow sz rows) v F
inductive RelL (w:World)(I:Ft):List PV→List Value→Ft→Prop
 | nil (F:Ft):RelL w I [] [] F
 | cons (c:PV) (l:List PV) (v:Value) (vs:List Value) (F G H:Ft) (h:RelV w I c v F) (t:RelL w I l vs G) (hF:∀ b,F b→H b) (hG:∀ b,G b→H b) (d:∀ b,F b→¬ G b):
   RelL w I (c::l) (v::vs) H
end
def SameOn (S:Ft)(w w':World):Prop:=∀ b,S b→w'.heap[b]? =w.heap[b]?
theorem SameOn.cell {S:Ft}{w w':World}(h:SameOn S w w'){a:Addr}(ha:S a.block):w'.cell? a=w.cell? a:=
 World.cell?_of_block (h _ ha)
theorem add_block (a:Addr)(j:Nat):(a.add j).block=a.block:=by unfold Addr.add;split<;>rfl
theorem RelL.len {w:World}{I:Ft}:∀{l:List PV} {vs:List Value} {F:Ft},RelL w I l vs F→vs.length=l.length
 | _,_,_,.nil _=>rfl
 | _,_,_,.cons _ _ _ _ _ _ _ _ t _ _ _=>by simp[t.len]
theorem ownsRow_same {w w':World}{e sz:Nat}{v:Value}{n:Nat}{xs:List Value}(h:OwnsW w 0 e sz v n xs)(hs:∀ b,v.ownBlock=some b→w'.heap[b]? =w.heap[b]?):
  OwnsW w' 0 e sz v n xs:=by
 refine⟨h.1,?_⟩
 rcases h.2 with h2 | ⟨g,cap,cur,hv,hg,hh,r⟩
 ·exact .inl h2
 exact .inr ⟨g,cap,cur,hv,hg,by rw[hs g (by rw[hv];rfl)];exact hh,r⟩
mutual
theorem RelV.frame {w w':World}{I I':Ft}(hI:SameOn I w w')(hII:∀ b,I b→I' b):∀{c:PV} {v:Value} {F:Ft},RelV w I c v F→SameOn F w w'→RelV w' I' c v F
 | _,_,_,.int k n F,_=>.int k n F
 | _,_,_,.bool b F,_=>.bool b F
 | _,_,_,.str s F,_=>.str s F
 | _,_,_,.zc F,_=>.zc F
 | _,_,_,.raw v F h1,_=>.raw v F h1
 | _,_,_,.bad v F h1,_=>.bad v F h1
 | _,_,_,.slnil sz F,_=>.slnil sz F
 | _,_,_,.sl sz rows a cap vs F hu hb hs hc hr hcap,_=>by
  have hr':=RelL.frame hI hII hr (fun _ h=>h.elim)
  refine .sl sz rows a cap vs F hu (fun h=>hII _ (hb h)) hs ?_ hr' hcap
  intro j u hj
  by_cases hrows:rows=[]
  ·subst hrows
   have:=hr.len
   simp at this
   subst this
   simp at hj
  rw[hI.cell (by rw[add_block];exact hb hrows)];exact hc j u hj
 | _,_,_,.ow sz rows v e xs F G hu how hr hG hb,hF=>
  .ow sz rows v e xs F G hu (ownsRow_same how fun b h=>hF b (hb b h).1) (RelL.frame hI hII hr (fun b h=>hF b (hG b h))) hG hb
theorem RelL.frame {w w':World}{I I':Ft}(hI:SameOn I w w')(hII:∀ b,I b→I' b):∀{l:List PV} {vs:List Value} {F:Ft},RelL w I l vs F→SameOn F w w'→RelL w' I' l vs F
 | _,_,_,.nil F,_=>.nil F
 | _,_,_,.cons c l v vs F G H h t hF hG d,hH=>
  .cons c l v vs F G H (RelV.frame hI hII h (fun b hb=>hH b (hF b hb))) (RelL.frame hI hII t (fun b hb=>hH b (hG b hb))) hF hG d
end
theorem RelV.mono {w:World}{I:Ft}{c:PV}{v:Value}{F F':Ft}(h:RelV w I c v F)(hF:∀ b,F b→F' b):RelV w I c v F':=by
 cases h with
 | int k n F=>exact .int k n _
 | bool b F=>exact .bool b _
 | str s F=>exact .str s _
 | zc F=>exact .zc _
 | raw v F h1=>exact .raw v _ h1
 | bad v F h1=>exact .bad v _ h1
 | slnil sz F=>exact .slnil sz _
 | sl sz rows a cap vs F hu hb hs hc hr hcap=>exact .sl sz rows a cap vs _ hu hb hs hc hr hcap
 | ow sz rows v e xs F G hu how hr hG hb=>exact .ow sz rows v e xs _ G hu how hr (fun b h=>hF b (hG b h)) (fun b h=>⟨hF b (hb b h).1,(hb b h).2⟩)
theorem RelL.mono {w:World}{I:Ft}{l:List PV}{vs:List Value}{F F':Ft}(h:RelL w I l vs F)(hF:∀ b,F b→F' b):RelL w I l vs F':=by
 cases h with
 | nil F=>exact .nil _
 | cons c l v vs F G H h t hF' hG d=>exact .cons c l v vs F G _ h t (fun b hb=>hF b (hF' b hb)) (fun b hb=>hF b (hG b hb)) d
theorem SameOn.mono {S S':Ft}{w w':World}(h:SameOn S w w')(hs:∀ b,S' b→S b):SameOn S' w w':=fun b hb=>h b (hs b hb)
theorem SameOn.refl (S:Ft)(w:World):SameOn S w w:=fun _ _=>rfl
theorem eraseL_length :∀(l:List PV),(eraseL l).length=l.length
 | []=>rfl
 | _::l=>by simp[eraseL,eraseL_length l]
theorem eraseR_length :∀(rows:List (List PV)),(eraseR rows).length=rows.length
 | []=>rfl
 | _::l=>by simp[eraseR,eraseR_length l]
theorem eraseR_len {sz:Nat}:∀(rows:List (List PV)),(∀ r∈rows,r.length=sz)→∀ r∈eraseR rows,r.length=sz
 | [],_,_,h=>by simp[eraseR] at h
 | r0::l,hu,r,h=>by
  simp only[eraseR,List.mem_cons] at h
  rcases h with rfl | h
  ·rw [eraseL_length];exact hu r0 (by simp)
  exact eraseR_len l (fun r hr=>hu r (by simp[hr])) r h
theorem eraseL_append :∀(a b:List PV),eraseL (a++b)=eraseL a++eraseL b
 | [],_=>rfl
 | _::a,b=>by simp[eraseL,eraseL_append a b]
theorem eraseR_flatten :∀(rows:List (List PV)),(eraseR rows).flatten=eraseL rows.flatten
 | []=>rfl
 | r::l=>by simp[eraseR,eraseL_append,eraseR_flatten l]
mutual
theorem RelV.erase {w:World}{I J:Ft}(hIJ:∀ b,I b→J b):∀{c:PV} {v:Value} {F:Ft},RelV w I c v F→(∀ b,F b→J b)→RelV w J (erase c) v none'
 | _,_,_,.int k n F,_=>.int k n _
 | _,_,_,.bool b F,_=>.bool b _
 | _,_,_,.str s F,_=>.str s _
 | _,_,_,.zc F,_=>.zc _
 | _,_,_,.raw v F h1,_=>.bad v _ h1
 | _,_,_,.bad v F h1,_=>.bad v _ h1
 | _,_,_,.slnil sz F,_=>.slnil sz _
 | _,_,_,.sl sz rows a cap vs F hu hb hs hc hr hcap,_=>.sl sz rows a cap vs _ hu (fun h=>hIJ _ (hb h)) hs hc (RelL.frame (SameOn.refl _ _) hIJ hr (SameOn.refl _ _)) hcap
 | _,_,_,.ow sz rows v e xs F G hu how hr hG hb,hF=>by
  have hr':=RelL.erase hIJ hr (fun b h=>hF b (hG b h))
  rw[← eraseR_flatten] at hr'
  have hu':∀ r∈eraseR rows,r.length=sz:=eraseR_len rows hu
  have hlen:(eraseR rows).length=rows.length:=eraseR_length rows
  unfold Av.erase
  rcases how.2 with ⟨rfl,hn⟩ | ⟨g,cap,cur,rfl,_,hh,hncap,_⟩
  ·have:rows=[]:=List.eq_nil_of_length_eq_zero hn
   subst this
   exact .slnil sz _
  rw[← hlen]
  refine .sl sz (eraseR rows) ⟨g,0,none⟩ cap xs _ hu' (fun _=>hF g (hb g rfl).1) (fun _=>rfl) ?_ hr' (by rw[hlen];exact hncap)
  intro j u hj
  exact how.cells (g:=g) rfl j u hj
theorem RelL.erase {w:World}{I J:Ft}(hIJ:∀ b,I b→J b):∀{l:List PV} {vs:List Value} {F:Ft},RelL w I l vs F→(∀ b,F b→J b)→RelL w J (eraseL l) vs none'
 | _,_,_,.nil F,_=>.nil _
 | _,_,_,.cons c l v vs F G H h t hF hG d,hH=>
  .cons _ _ v vs none' none' _ (RelV.erase hIJ h (fun b hb=>hH b (hF b hb))) (RelL.erase hIJ t (fun b hb=>hH b (hG b hb))) (fun _ h=>h) (fun _ h=>h) (fun _ h=>h.elim)
end
end Go.Av
namespace Go.Av
open Go Go.RowKit
set_option linter.unusedVariables false
def baseOf :Value→Option Nat
 | .pointer (some a)=>some a.block
 | .slice (some a) _ _=>some a.block
 | _=>none
mutual
inductive RelS (w:World)(I:Ft)(val:Nat→Value)(bl:List (Nat × Blk)):PV→Value→Prop
 | leaf (c:PV) (v:Value) (hl:leafB c=true) (h:RelV w I c v none'):RelS w I val bl c v
 | own (d:Nat) (b:Blk) (hb:blk bl d=some b) (hk:b.k≠ .var):RelS w I val bl (.own d) (val d)
 | pt (d i j:Nat) (b:Blk) (g:Nat) (hb:blk bl d=some b) (hg:baseOf (val d)=some g):RelS w I val bl (.pt d i j) (.pointer (some ⟨g,i * b.sz+j,none⟩))
 | rd (cs:List PV) (a:Addr) (vs:List Value) (hI:¬ cs=[]→I a.block) (hs:a.spot=none) (hc:∀(j:Nat) (u:Value),vs[j]? =some u→w.cell? (a.add j)=some u)
   (hr:RelL w I cs vs none'):RelS w I val bl (.rd cs) (.pointer (some a))
 | agg (cs:List PV) (vs:List Value) (h:RelSL w I val bl cs vs):RelS w I val bl (.agg cs) (.agg vs.toArray)
 | tup (cs:List PV) (vs:List Value) (h:RelSL w I val bl cs vs):RelS w I val bl (.tup cs) (.tuple vs.toArray)
 | fn (f:FuncId) (cs:List PV) (vs:List Value) (h:RelSL w I val bl cs vs):RelS w I val bl (.fn f cs) (.func (.func f) #[] vs.toArray)
 | bad (v:Value):RelS w I val bl .bad v
inductive RelSL (w:World)(I:Ft)(val:Nat→Value)(bl:List (Nat × Blk)):List PV→List Value→Prop
 | nil:RelSL w I val bl [] []
 | cons (c:PV) (l:List PV) (v:Value) (vs:List Value) (h:RelS w I val bl c v) (t:RelSL w I val bl l vs):RelSL w I val bl (c::l) (v::vs)
end
def Ext (bl bl':List (Nat × Blk))(val val':Nat→Value):Prop:=
 ∀ d b,blk bl d=some b→(∃ b',blk bl' d=some b'∧b'.sz=b.sz∧b'.k=b.k)∧val' d=val d
theorem Ext.refl (bl:List (Nat × Blk))(val:Nat→Value):Ext bl bl val val:=fun _ b h=>⟨⟨b,h,rfl,rfl⟩,rfl⟩
mutual
theorem RelS.frame {w w':World}{I I':Ft}{val val':Nat→Value}{bl bl':List (Nat × Blk)}(hI:SameOn I w w')(hII:∀ b,I b→I' b)(hE:Ext bl bl' val val'):
  ∀{c:PV} {v:Value},RelS w I val bl c v→RelS w' I' val' bl' c v
 | _,_,.leaf c v hl h=>.leaf c v hl (RelV.frame hI hII h (fun _ h=>h.elim))
 | _,_,.own d b hb hk=>by
  obtain⟨⟨b',hb',_,hk'⟩,hv⟩:=hE d b hb
  rw[← hv]
  exact .own d b' hb' (by rw[hk'];exact hk)
 | _,_,.pt d i j b g hb hg=>by
  obtain⟨⟨b',hb',hs,_⟩,hv⟩:=hE d b hb
  rw[← hs]
  exact .pt d i j b' g hb' (by rw[hv];exact hg)
 | _,_,.rd cs a vs hb hs hc hr=>by
  refine .rd cs a vs (fun h=>hII _ (hb h)) hs ?_ (RelL.frame hI hII hr (fun _ h=>h.elim))
  intro j u hj
  by_cases hcs:cs=[]
  ·subst hcs
   have:=hr.len
   simp at this
   subst this
   simp at hj
  rw[hI.cell (by rw[add_block];exact hb hcs)];exact hc j u hj
 | _,_,.agg cs vs h=>.agg cs vs (RelSL.frame hI hII hE h)
 | _,_,.tup cs vs h=>.tup cs vs (RelSL.frame hI hII hE h)
 | _,_,.fn f cs vs h=>.fn f cs vs (RelSL.frame hI hII hE h)
 | _,_,.bad v=>.bad v
theorem RelSL.frame {w w':World}{I I':Ft}{val val':Nat→Value}{bl bl':List (Nat × Blk)}(hI:SameOn I w w')(hII:∀ b,I b→I' b)(hE:Ext bl bl' val val'):
  ∀{l:List PV} {vs:List Value},RelSL w I val bl l vs→RelSL w' I' val' bl' l vs
 | _,_,.nil=>.nil
 | _,_,.cons c l v vs h t=>.cons c l v vs (RelS.frame hI hII hE h) (RelSL.frame hI hII hE t)
end
section
variable {w : World} {I : Ft} {val : Nat → Value} {bl : List (Nat × Blk)}
theorem RelSL.len :∀{l:List PV} {vs:List Value},RelSL w I val bl l vs→vs.length=l.length
 | _,_,.nil=>rfl
 | _,_,.cons _ _ _ _ _ t=>by simp[t.len]
theorem RelSL.get :∀{l:List PV} {vs:List Value},RelSL w I val bl l vs→∀(k:Nat) (dv:Value),RelS w I val bl (getL l k) (vs.getD k dv)
 | _,_,.nil,k,dv=>by cases k<;>exact .bad _
 | _,_,.cons c l v vs h t,0,dv=>h
 | _,_,.cons c l v vs h t,k+1,dv=>by simpa [getL] using t.get k dv
theorem setL_length {α:Type}:∀(l:List α) (k:Nat) (x:α),(setL l k x).length=l.length
 | [],_,_=>rfl
 | _::_,0,_=>rfl
 | _::l,k+1,x=>by simp[setL,setL_length l k x]
theorem setL_eq {α:Type}:∀(l:List α) (k:Nat) (x:α),setL l k x=l.set k x
 | [],_,_=>rfl
 | _::_,0,_=>rfl
 | _::l,k+1,x=>by simp[setL,setL_eq l k x]
theorem RelSL.set :∀{l:List PV} {vs:List Value},RelSL w I val bl l vs→∀(k:Nat) {c:PV} {v:Value},RelS w I val bl c v→RelSL w I val bl (setL l k c) (vs.set k v)
 | _,_,.nil,_,_,_,_=>.nil
 | _,_,.cons c l v vs h t,0,_,_,hc=>.cons _ _ _ _ hc t
 | _,_,.cons c l v vs h t,k+1,_,_,hc=>.cons _ _ _ _ h (t.set k hc)
theorem RelSL.append :∀{l l':List PV} {vs vs':List Value},RelSL w I val bl l vs→RelSL w I val bl l' vs'→RelSL w I val bl (l++l') (vs++vs')
 | _,_,_,_,.nil,h=>h
 | _,_,_,_,.cons c l v vs h t,h'=>.cons _ _ _ _ h (t.append h')
theorem RelSL.drop :∀{l:List PV} {vs:List Value},RelSL w I val bl l vs→∀(k:Nat),RelSL w I val bl (l.drop k) (vs.drop k)
 | _,_,h,0=>h
 | _,_,.nil,_+1=>.nil
 | _,_,.cons c l v vs h t,k+1=>t.drop k
theorem RelL.drop :∀{l:List PV} {vs:List Value} {F:Ft},RelL w I l vs F→∀(k:Nat),RelL w I (l.drop k) (vs.drop k) F
 | _,_,_,h,0=>h
 | _,_,_,.nil F,_+1=>.nil F
 | _,_,_,.cons c l v vs F G H h t hF hG d,k+1=>(t.drop k).mono hG
end
def CellsR (w:World)(I:Ft)(val:Nat→Value)(bl:List (Nat × Blk))(sz:Nat)(r:List PV)(g:Nat)(F:Ft):Prop:=
 ∃ T c,F g∧w.heap[g]? =some (.cells c T (0,0))∧RelSL w I val bl r c.toList∧r.length=sz∧∀ u∈c.toList,u.oneCell'=true
def ArrR (w:World)(I:Ft)(sz:Nat)(rows:List (List PV))(v:Value)(F:Ft):Prop:=
 ∃ e xs G,(∀ r∈rows,r.length=sz)∧OwnsW w 0 e sz v rows.length xs∧RelL w I rows.flatten xs G∧(∀ b,G b→F b)∧(∀ b,v.ownBlock=some b→F b∧¬ G b)
def BlkR (w:World)(I:Ft)(val:Nat→Value)(bl:List (Nat × Blk)):Blk→Value→Ft→Prop
 | ⟨.var,sz,[r]⟩,v,F=>∃ g,v=.pointer (some ⟨g,0,none⟩)∧CellsR w I val bl sz r g F
 | ⟨.lit,sz,[r]⟩,v,F=>∃ g,v=.slice (some ⟨g,0,none⟩) 1 1∧0 < sz∧CellsR w I val bl sz r g F
 | ⟨.arr,sz,rows⟩,v,F=>ArrR w I sz rows v F
 | _,_,_=>False
structure Kept (B:Ft)(w w':World):Prop where
 os:w'.os=w.os
 tape:w'.tape=w.tape
 output:w'.output=w.output
 size:w.heap.size≤w'.heap.size
 block:∀ k,¬ B k→w'.heap[k]? =w.heap[k]?
theorem Kept.refl (B:Ft)(w:World):Kept B w w:=⟨rfl,rfl,rfl,Nat.le_refl _,fun _ _=>rfl⟩
theorem Kept.trans {B:Ft}{a b c:World}(h:Kept B a b)(k:Kept B b c):Kept B a c:=
 ⟨k.os.trans h.os,k.tape.trans h.tape,k.output.trans h.output,Nat.le_trans h.size k.size,fun i hi=>(k.block i hi).trans (h.block i hi)⟩
theorem Kept.mono {B B':Ft}{w w':World}(h:Kept B w w')(hB:∀ x,B x→B' x):Kept B' w w':=⟨h.os,h.tape,h.output,h.size,fun k hk=>h.block k fun hb=>hk (hB k hb)⟩
theorem Kept.below {B:Ft}{w w':World}(h:Below w.heap.size w w')(hB:∀ x,w.heap.size≤x→B x):Kept B w w':=
 ⟨h.os,h.tape,h.output,h.size,fun k hk=>h.block k (Nat.lt_of_not_le fun hb=>hk (hB k hb))⟩
theorem Kept.below' {w w':World}(h:Kept (fun x=>w.heap.size≤x) w w'):Below w.heap.size w w':=
 ⟨h.os,h.tape,h.output,h.size,fun k hk=>h.block k (Nat.not_le_of_lt hk)⟩
structure Sim (B:Ft)(W0:World)(I0:Ft)(I:Ft)(val:Nat→Value)(fs:Nat→Ft)(σ:St)(a:Act)(w:World):Prop where
 slots:RelSL w I val σ.bl σ.sl a.tmps.toList
 blocks:∀ d b,blk σ.bl d=some b→BlkR w I val σ.bl b (val d) (fs d)
 disj:∀ d d' b b',blk σ.bl d=some b→blk σ.bl d'=some b'→d≠d'→∀ x,fs d x→¬ fs d' x
 imm:∀ d b,blk σ.bl d=some b→∀ x,fs d x→¬ I x
 new:∀ d b,blk σ.bl d=some b→∀ x,fs d x→B x∧x < w.heap.size
 lt:∀ x,I x→x < w.heap.size
 old:∀ x,I x→I0 x∨B x
 below:Kept B W0 w
 size:∀ x,w.heap.size≤x→B x
 heads:∀ d v,lookV σ.hd d=some v→val d=v∧∃ b,blk σ.bl d=some b
 defers:a.defers=[]
def SimE (B:Ft)(W0:World)(I0:Ft)(σ:St)(a:Act)(w:World):Prop:=∃ I val fs,Sim B W0 I0 I val fs σ a w
theorem ofVal_rel {w:World}{I:Ft}{val:Nat→Value}{bl:List (Nat × Blk)}(v:Value):RelS w I val bl (ofVal v) v:=by
 unfold ofVal
 split
 ·exact .leaf _ _ rfl (.int _ _ _)
 ·exact .leaf _ _ rfl (.bool _ _)
 ·exact .leaf _ _ rfl (.str _ _)
 ·exact .leaf _ _ rfl (.zc _)
 exact .bad _
section
variable {B : Ft} {W0 : World} {I0 : Ft} {I : Ft} {val : Nat → Value} {fs : Nat → Ft} {σ : St} {a : Act} {w : World}
theorem Sim.eval (h:Sim B W0 I0 I val fs σ a w)(x:Operand):RelS w I val σ.bl (σ.get x) (a.eval x):=by
 cases x with
 | tmp t=>
  have:=h.slots.get t undef
  simpa [St.get,Act.eval] using this
 | const v=>exact ofVal_rel v
 | global g=>exact .bad _
 | func f=>exact .fn f [] [] .nil
theorem put_toList (a:Act)(d:Nat)(v:Value):(a.put (some d) v).tmps.toList=a.tmps.toList.set d v:=by
 simp[Act.put]
theorem Sim.put (h:Sim B W0 I0 I val fs σ a w)(dst:Option Tmp){c:PV}{v:Value}(hc:RelS w I val σ.bl c v):Sim B W0 I0 I val fs (σ.put dst c) (a.put dst v) w:=by
 cases dst with
 | none=>exact h
 | some d=>
  refine{slots:= ?_,blocks:=h.blocks,disj:=h.disj,imm:=h.imm,new:=h.new,lt:=h.lt,old:=h.old,below:=h.below,size:=h.size,heads:=h.heads,defers:=h.defers}
  rw[put_toList]
  exact h.slots.set d hc
end
end Go.Av
namespace Go.Av
open Go Go.RowKit
set_option linter.unusedVariables false
set_option linter.unusedSimpArgs false
def toVal :PV→Value
 | .int k n=>.int k n
 | .bool b=>.bool b
 | .str s=>.string s
 | _=>undef
def numB :PV→Bool
 | .int _ _ | .bool _ | .str _=>true
 | _=>false
theorem sameK_len :∀{z l:List PV},sameK z l=true→l.length=z.length
 | [],[],_=>rfl
 | c::z,d::l,h=>by simp only[sameK,Bool.and_eq_true] at h;simp[sameK_len h.2]
 | [],_::_,h=>by cases h
 | _::_,[],h=>by cases h
theorem sameK_take :∀{z l:List PV} (n:Nat),sameK z l=true→sameK (z.take n) (l.take n)=true
 | _,_,0,_=>by simp[sameK]
 | [],[],n+1,_=>rfl
 | c::z,d::l,n+1,h=>by simp only[sameK,Bool.and_eq_true,List.take_succ_cons] at h ⊢;exact⟨h.1,sameK_take n h.2⟩
 | [],_::_,_+1,h=>by cases h
 | _::_,[],_+1,h=>by cases h
theorem sameK_drop :∀{z l:List PV} (n:Nat),sameK z l=true→sameK (z.drop n) (l.drop n)=true
 | _,_,0,h=>h
 | [],[],n+1,_=>rfl
 | c::z,d::l,n+1,h=>by simp only[sameK,Bool.and_eq_true,List.drop_succ_cons] at h ⊢;exact sameK_drop n h.2
 | [],_::_,_+1,h=>by cases h
 | _::_,[],_+1,h=>by cases h
theorem pvEqL_append :∀{a a' b b':List PV},a.length=a'.length→pvEqL (a++b) (a'++b')=(pvEqL a a' && pvEqL b b')
 | [],[],_,_,_=>by simp[pvEqL]
 | c::a,d::a',b,b',h=>by
  simp only[List.cons_append,pvEqL,pvEqL_append (a:=a) (a':=a') (by simpa using h),Bool.and_assoc]
 | [],_::_,_,_,h=>by simp at h
 | _::_,[],_,_,h=>by simp at h
mutual
def flatB (P:Program):Nat→TypeId→List PV→Bool
  | 0,_,_=>false
  | n+1,t,zs=>match P.underlying t with
    | some (.int k)=>match zs with | [.int k' _]=>kindB k k' | _=>false
    | some .bool=>match zs with | [.bool _]=>true | _=>false
    | some .string=>match zs with | [.str _]=>true | _=>false
    | some (.struct fs)=> !P.stoodInHeld t && flatF P n fs.toList 0 zs
    | _=>false
def flatF (P:Program):Nat→List Field→Nat→List PV→Bool
  | _,[],_,zs=>zs.isEmpty
  | 0,_::_,_,_=>false
  | n + 1, f :: fs, off, zs => f.name != "_" && nq f.offset off && (match P.info? f.type with
    | some i=>nle i.size zs.length && flatB P n f.type (zs.take i.size) && flatF P n fs (off+i.size) (zs.drop i.size)
    | none=>false)
end
def isStr (P:Program)(t:TypeId):Bool:=match P.underlying t with | some (.struct _)=>true | _=>false
def valOf (P:Program)(t:TypeId)(l:List PV):Value:=match isStr P t with | true=>.agg (l.map toVal).toArray | false=>toVal (getL l 0)
def CmpAt (P:Program)(t:TypeId)(zs:List PV)(n:Nat):Prop:=∀(d:Nat) (w:World) (l l':List PV),n≤d→sameK zs l=true→sameK zs l'=true→(Op.equalIn d t (valOf P t l) (valOf P t l')).run P w=.ok (pvEqL l l') w
theorem one_cell {z:PV}{l:List PV}(h:sameK [z] l=true):∃ c,l=[c]∧sameK1 z c=true:=by
 cases l with
 | nil=>cases h
 | cons c l=>
  cases l with
  | nil=>simp only[sameK,Bool.and_eq_true] at h;exact⟨c,rfl,h.1⟩
  | cons d l=>simp[sameK] at h
mutual
theorem flatB_ok {P:Program}:∀(n:Nat) (t:TypeId) (zs:List PV),flatB P n t zs=true→CmpAt P t zs n
 | 0,_,_,h=>by cases h
 | n+1,t,zs,h=>by
  intro d w l l' hd hl hl'
  obtain⟨d,rfl⟩:∃ e,d=e+1:=⟨d - 1,by omega⟩
  unfold flatB at h
  split at h
  ·rename_i k hu
   split at h
   ·rename_i k' m
    obtain⟨c,rfl,hc⟩:=one_cell hl
    obtain⟨c',rfl,hc'⟩:=one_cell hl'
    have hs:isStr P t=false:=by simp[isStr,hu]
    cases c<;>simp[sameK1] at hc
    cases c'<;>simp[sameK1] at hc'
    have e1:=of_decide_eq_true hc
    have e2:=of_decide_eq_true hc'
    subst e1;subst e2
    simp only[valOf,hs,getL,toVal,pvEqL,pvEq,Bool.and_true]
    exact run_equalIn_int w d t _ _ _ _ hu
   cases h
  ·rename_i hu
   split at h
   ·obtain⟨c,rfl,hc⟩:=one_cell hl
    obtain⟨c',rfl,hc'⟩:=one_cell hl'
    have hs:isStr P t=false:=by simp[isStr,hu]
    cases c<;>simp[sameK1] at hc
    cases c'<;>simp[sameK1] at hc'
    simp only[valOf,hs,getL,toVal,pvEqL,pvEq,Bool.and_true]
    exact run_equalIn_bool' w d t _ _ hu
   cases h
  ·rename_i hu
   split at h
   ·obtain⟨c,rfl,hc⟩:=one_cell hl
    obtain⟨c',rfl,hc'⟩:=one_cell hl'
    have hs:isStr P t=false:=by simp[isStr,hu]
    cases c<;>simp[sameK1] at hc
    cases c'<;>simp[sameK1] at hc'
    simp only[valOf,hs,getL,toVal,pvEqL,pvEq,Bool.and_true]
    exact run_equalIn_string w d t _ _ hu
   cases h
  ·rename_i fs hu
   simp only[Bool.and_eq_true,Bool.not_eq_true'] at h
   have hs:isStr P t=true:=by simp[isStr,hu]
   have hf:P.fieldsOf t=fs:=by simp[Program.fieldsOf,hu]
   simp only[valOf,hs]
   rw[run_equalIn_struct w d t _ _ (by rw[hf];exact hu) h.1,hf]
   have:=flatF_ok n fs.toList 0 zs h.2 d w l l' (by omega) (by simpa using hl) (by simpa using hl')
   simpa using this
  cases h
theorem flatF_ok {P:Program}:∀(n:Nat) (fs:List Field) (off:Nat) (zs:List PV),flatF P n fs off zs=true→∀(d:Nat) (w:World) (l l':List PV),n≤d→sameK zs (l.drop off)=true→sameK zs (l'.drop off)=true→
  (Op.eqFields d (l.map toVal).toArray (l'.map toVal).toArray fs).run P w=.ok (pvEqL (l.drop off) (l'.drop off)) w
 | n,[],off,zs,h,d,w,l,l',hd,hl,hl'=>by
  have hz:zs=[]:=by simpa [flatF] using h
  subst hz
  have e1:l.drop off=[]:=List.eq_nil_of_length_eq_zero (sameK_len hl)
  have e2:l'.drop off=[]:=List.eq_nil_of_length_eq_zero (sameK_len hl')
  rw[e1,e2]
  simp[Op.eqFields,pvEqL]
 | 0,_::_,_,_,h,_,_,_,_,_,_,_=>by simp[flatF] at h
 | n+1,f::fs,off,zs,h,d,w,l,l',hd,hl,hl'=>by
  simp only[flatF,Bool.and_eq_true] at h
  obtain⟨⟨h1,h2⟩,h3⟩:=h
  split at h3
  case h_2=>cases h3
  rename_i i hi
  simp only[Bool.and_eq_true] at h3
  obtain⟨⟨hsz,h4⟩,h5⟩:=h3
  have hsz:=nle_le hsz
  have h2:=nq_eq h2
  have hname : f.name ≠ "_" := by simpa using h1
  have hll:=sameK_len hl
  have hll':=sameK_len hl'
  have head:=flatB_ok n f.type (zs.take i.size) h4 d w ((l.drop off).take i.size) ((l'.drop off).take i.size) (by omega) (sameK_take _ hl) (sameK_take _ hl')
  have rest:=flatF_ok n fs (off+i.size) (zs.drop i.size) h5 d w l l' (by omega) (by rw[← List.drop_drop];exact sameK_drop _ hl) (by rw[← List.drop_drop];exact sameK_drop _ hl')
  have hpart:∀ m:List PV,sameK zs (m.drop off)=true→(part f.type (m.map toVal).toArray f.offset).run P w=.ok (valOf P f.type ((m.drop off).take i.size)) w:=by
   intro m hm
   have hml:=sameK_len hm
   simp only[List.length_drop] at hml
   have hstruct:∀ gs,P.underlying f.type=some (.struct gs)→(part f.type (m.map toVal).toArray f.offset).run P w=.ok (valOf P f.type ((m.drop off).take i.size)) w:=by
    intro gs hu
    have hag:(isAgg f.type).run P w=.ok true w:=by simp[isAgg,run_underlying hu]
    have hs:isStr P f.type=true:=by simp[isStr,hu]
    have hex:(m.map toVal).toArray.extract f.offset (f.offset+i.size)=(((m.drop off).take i.size).map toVal).toArray:=by
     apply Array.ext'
     simp only[Array.toList_extract,List.extract_eq_take_drop,h2]
     rw[← List.map_drop,← List.map_take]
     congr 2
     omega
    simp only[part,Sem.run_bind,hag,Result.andThen_ok,if_true,sizeOf,typeInfo,hi,Sem.run_pure,program,Sem.run,valOf,hs,hex]
   have hone:∀ k,P.underlying f.type=some k→(∀ gs,k≠ .struct gs)→(∀ a b,k≠ .array a b)→(∃ z,zs.take i.size=[z])→(part f.type (m.map toVal).toArray f.offset).run P w=.ok (valOf P f.type ((m.drop off).take i.size)) w:=by
    intro k hu hns hna ⟨z,hz⟩
    have hag:(isAgg f.type).run P w=.ok false w:=by
     simp only[isAgg,Sem.run_bind,run_underlying hu,Result.andThen_ok]
     cases k<;>first | rfl | exact absurd rfl (hns _) | exact absurd rfl (hna _ _)
    have hs:isStr P f.type=false:=by
     simp only[isStr,hu]
     cases k<;>first | rfl | exact absurd rfl (hns _)
    have hz1:(zs.take i.size).length=1:=by rw[hz];rfl
    simp only[List.length_take] at hz1
    have hlt:off < m.length:=by omega
    have hget:(m.map toVal).toArray[f.offset]? =some (toVal (getL ((m.drop off).take i.size) 0)):=by
     rw[h2,List.getElem?_toArray,List.getElem?_map,List.getElem?_eq_getElem hlt,List.drop_eq_getElem_cons hlt]
     obtain⟨s,hs'⟩:∃ s,i.size=s+1:=⟨i.size - 1,by omega⟩
     rw[hs',List.take_succ_cons]
     rfl
    simp only[part,Sem.run_bind,hag,Result.andThen_ok,Bool.false_eq_true,if_false,hget,Sem.run_pure,valOf,hs]
   cases n with
   | zero=>cases h4
   | succ n=>
    unfold flatB at h4
    split at h4
    ·rename_i k hu
     split at h4
     ·rename_i k' m' hz;exact hone _ hu (fun _ h=>by cases h) (fun _ _ h=>by cases h) ⟨_,hz⟩
     cases h4
    ·rename_i hu
     split at h4
     ·rename_i b hz;exact hone _ hu (fun _ h=>by cases h) (fun _ _ h=>by cases h) ⟨_,hz⟩
     cases h4
    ·rename_i hu
     split at h4
     ·rename_i b hz;exact hone _ hu (fun _ h=>by cases h) (fun _ _ h=>by cases h) ⟨_,hz⟩
     cases h4
    ·rename_i gs hu;exact hstruct gs hu
    cases h4
  simp only[Op.eqFields]
  rw[if_pos hname]
  simp only[Sem.run_bind,hpart l hl,hpart l' hl',Result.andThen_ok,head]
  have split':∀ m:List PV,m.drop off=(m.drop off).take i.size++m.drop (off+i.size):=fun m=>by rw[← List.drop_drop,List.take_append_drop]
  rw[split' l,split' l',pvEqL_append (by simp only[List.length_take,List.length_drop] at hll hll' ⊢;omega)]
  have e1:(List.take i.size (List.drop off l)++List.drop (off+i.size) l)=List.drop off l:=(split' l).symm
  have e2:(List.take i.size (List.drop off l')++List.drop (off+i.size) l')=List.drop off l':=(split' l').symm
  rw[e1,e2]
  cases pvEqL ((l.drop off).take i.size) ((l'.drop off).take i.size) with
  | false=>simp
  | true=>simp[rest]
end
def FlatCmp (P:Program)(t:TypeId)(zs:List PV):Prop:=∀(w:World) (l l':List PV),sameK zs l=true→sameK zs l'=true→(Op.equal t (.agg (l.map toVal).toArray) (.agg (l'.map toVal).toArray)).run P w=.ok (pvEqL l l') w
theorem flat_cmp {P:Program}{t:TypeId}{zs:List PV}(hs:isStr P t=true)(h:flatB P 20 t zs=true):FlatCmp P t zs:=by
 intro w l l' hl hl'
 have:=flatB_ok 20 t zs h Op.maxDepth w l l' (by decide) hl hl'
 unfold Op.equal
 simpa only[valOf,hs] using this
theorem sameK_num :∀{z l:List PV},sameK z l=true→∀ c∈l,numB c=true
 | [],[],_,c,hc=>by simp at hc
 | z::zs,d::l,h,c,hc=>by
  simp only[sameK,Bool.and_eq_true] at h
  rcases List.mem_cons.1 hc with rfl | hc
  ·cases z<;>cases c<;>simp[sameK1] at h<;>rfl
  exact sameK_num h.2 c hc
 | [],_::_,h,_,_=>by cases h
 | _::_,[],h,_,_=>by cases h
end Go.Av

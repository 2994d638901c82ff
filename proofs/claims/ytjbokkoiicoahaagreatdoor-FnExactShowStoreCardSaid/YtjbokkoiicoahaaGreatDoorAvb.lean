/- Each operation of the abstract walk is what Go does: what makes a block, and what writes one. -/
import Derived.Test.YtjbokkoiicoahaaGreatDoorAvo
import Derived.Great.BuildSlice
namespace Go.Av
open Go Go.RowKit
set_option linter.unusedVariables false
set_option linter.unusedSimpArgs false
theorem blk_cons (d:Nat)(b:Blk)(l:List (Nat × Blk))(e:Nat):blk ((d,b)::l) e=if d=e then some b else blk l e:=by
 show(bif nq d e then some b else blk l e)=_
 by_cases h:d=e
 ·subst h;simp[show nq d d=true by simp]
 rw[if_neg h]
 have:nq d e=false:=by
  cases hb:nq d e with
  | false=>rfl
  | true=>exact absurd (nq_eq hb) h
 simp[this]
def upd {α:Type}(f:Nat→α)(d:Nat)(x:α):Nat→α:=fun e=>if e=d then x else f e
theorem upd_same {α:Type}(f:Nat→α)(d:Nat)(x:α):upd f d x d=x:=by simp[upd]
theorem upd_ne {α:Type}(f:Nat→α){d e:Nat}(x:α)(h:e≠d):upd f d x e=f e:=by simp[upd,h]
theorem ArrR.frame {w w':World}{I I':Ft}{sz:Nat}{rows:List (List PV)}{v:Value}{F:Ft}(hI:SameOn I w w')(hII:∀ b,I b→I' b)(hF:SameOn F w w')(h:ArrR w I sz rows v F):ArrR w' I' sz rows v F:=by
 obtain⟨e,xs,G,hu,how,hR,hG,hb⟩:=h
 exact⟨e,xs,G,hu,ownsRow_same how (fun b hv=>hF b (hb b hv).1),RelL.frame hI hII hR (hF.mono hG),hG,hb⟩
theorem CellsR.frame {w w':World}{I I':Ft}{val val':Nat→Value}{bl bl':List (Nat × Blk)}{sz:Nat}{r:List PV}{g:Nat}{F:Ft}(hI:SameOn I w w')(hII:∀ b,I b→I' b)(hE:Ext bl bl' val val')
  (hF:SameOn F w w') (h:CellsR w I val bl sz r g F):CellsR w' I' val' bl' sz r g F:=by
 obtain⟨T,c,hg,hh,hs,hl,h1⟩:=h
 exact⟨T,c,hg,by rw[hF g hg];exact hh,RelSL.frame hI hII hE hs,hl,h1⟩
theorem BlkR.frame {w w':World}{I I':Ft}{val val':Nat→Value}{bl bl':List (Nat × Blk)}{b:Blk}{v:Value}{F:Ft}(hI:SameOn I w w')(hII:∀ b,I b→I' b)(hE:Ext bl bl' val val')
  (hF:SameOn F w w') (h:BlkR w I val bl b v F):BlkR w' I' val' bl' b v F:=by
 obtain⟨k,sz,rows⟩:=b
 cases k with
 | arr=>exact ArrR.frame hI hII hF h
 | var=>
  match rows,h with
  | [r],h=>obtain⟨g,hv,hc⟩:=h;exact⟨g,hv,hc.frame hI hII hE hF⟩
 | lit=>
  match rows,h with
  | [r],h=>obtain⟨g,hv,h0,hc⟩:=h;exact⟨g,hv,h0,hc.frame hI hII hE hF⟩
section
variable {P : Program} {T : Tys} {B : Ft} {W0 : World} {I0 : Ft} {I : Ft} {val : Nat → Value} {fs : Nat → Ft} {σ σ' : St} {a : Act} {w w' : World} {o : Oper}
theorem Sim.world (h:Sim B W0 I0 I val fs σ a w)(hsame:∀ x,(I x∨∃ d b,blk σ.bl d=some b∧fs d x)→w'.heap[x]? =w.heap[x]?)(hb:Kept B w w'):Sim B W0 I0 I val fs σ a w':=by
  have hI:SameOn I w w':=fun x hx=>hsame x (.inl hx)
  refine{slots:=RelSL.frame hI (fun _ h=>h) (Ext.refl _ _) h.slots,blocks:=fun d b hd=> ?_,disj:=h.disj,imm:=h.imm,
           new:=fun d b hd x hx=>⟨(h.new d b hd x hx).1,Nat.lt_of_lt_of_le (h.new d b hd x hx).2 hb.size⟩,lt:=fun x hx=>Nat.lt_of_lt_of_le (h.lt x hx) hb.size,old:=h.old,
           below:=h.below.trans hb,size:=fun x hx=>h.size x (Nat.le_trans hb.size hx),heads:=h.heads,defers:=h.defers}
  exact(h.blocks d b hd).frame hI (fun _ h=>h) (Ext.refl _ _) (fun x hx=>hsame x (.inr ⟨d,b,hd,hx⟩))
theorem Sim.grow (h:Sim B W0 I0 I val fs σ a w)(hb:Below w.heap.size w w'):Sim B W0 I0 I val fs σ a w':=by
 refine h.world (fun x hx=>hb.block x ?_) (Kept.below hb h.size)
 rcases hx with hx | ⟨d,b,hd,hx⟩
 ·exact h.lt x hx
 exact(h.new d b hd x hx).2
theorem ext_cons {bl:List (Nat × Blk)}{d:Nat}{b:Blk}{v:Value}(hd:blk bl d=none):Ext bl ((d,b)::bl) val (upd val d v):=by
 intro e c he
 have hne:e≠d:=fun h=>by subst h;rw[hd] at he;cases he
 exact⟨⟨c,by rw[blk_cons,if_neg (Ne.symm hne)];exact he,rfl,rfl⟩,upd_ne _ _ hne⟩
theorem Sim.newBlk (h:Sim B W0 I0 I val fs σ a w){d:Nat}(hd:blk σ.bl d=none){b:Blk}{v:Value}{F:Ft}(hB:BlkR w I (upd val d v) ((d,b)::σ.bl) b v F)
    (hF:∀ x,F x→B x∧x < w.heap.size) (hI:∀ x,F x→¬ I x) (hO:∀ x,F x→∀ e c,blk σ.bl e=some c→¬ fs e x):
    Sim B W0 I0 I (upd val d v) (upd fs d F) {σ with bl:=(d,b)::σ.bl} a w:=by
  have hE:=ext_cons (val:=val) (b:=b) (v:=v) hd
  have look:∀ e c,blk ((d,b)::σ.bl) e=some c→(e=d∧c=b)∨(e≠d∧blk σ.bl e=some c):=by
    intro e c he
    rw[blk_cons] at he
    by_cases h0:d=e
    · rw[if_pos h0] at he;exact .inl ⟨h0.symm,by simpa using he.symm⟩
    · rw[if_neg h0] at he;exact .inr ⟨Ne.symm h0,he⟩
  refine{slots:=RelSL.frame (SameOn.refl _ _) (fun _ h=>h) hE h.slots,blocks:=fun e c he=> ?_,disj:=fun e e' c c' he he' hne x hx hx'=> ?_,imm:=fun e c he x hx=> ?_,
           new:=fun e c he x hx=> ?_,lt:=h.lt,old:=h.old,below:=h.below,size:=h.size,heads:=fun e v he=> ?_,defers:=h.defers}
  · rcases look e c he with ⟨rfl,rfl⟩ | ⟨hne,he⟩
    · rw[upd_same,upd_same];exact hB
    · rw[upd_ne _ _ hne,upd_ne _ _ hne]
      exact(h.blocks e c he).frame (SameOn.refl _ _) (fun _ h=>h) hE (SameOn.refl _ _)
  · rcases look e c he with ⟨rfl,rfl⟩ | ⟨hn1,h1⟩<;>rcases look e' c' he' with ⟨rfl,rfl⟩ | ⟨hn2,h2⟩
    · exact hne rfl
    · rw[upd_same] at hx;rw[upd_ne _ _ hn2] at hx';exact hO x hx _ _ h2 hx'
    · rw[upd_same] at hx';rw[upd_ne _ _ hn1] at hx;exact hO x hx' _ _ h1 hx
    · rw[upd_ne _ _ hn1] at hx;rw[upd_ne _ _ hn2] at hx';exact h.disj _ _ _ _ h1 h2 hne x hx hx'
  · rcases look e c he with ⟨rfl,rfl⟩ | ⟨hn1,h1⟩
    · rw[upd_same] at hx;exact hI x hx
    · rw[upd_ne _ _ hn1] at hx;exact h.imm _ _ h1 x hx
  · rcases look e c he with ⟨rfl,rfl⟩ | ⟨hn1,h1⟩
    · rw[upd_same] at hx;exact hF x hx
    · rw[upd_ne _ _ hn1] at hx;exact h.new _ _ h1 x hx
  · obtain⟨h1,c,hc⟩:=h.heads e v he
    have hne:e≠d:=fun h0=>by subst h0;rw[hd] at hc;cases hc
    exact⟨by rw[upd_ne _ _ hne];exact h1,c,by rw[blk_cons,if_neg (Ne.symm hne)];exact hc⟩
theorem below_alloc' (w:World)(x:Obj):Below w.heap.size w (w.alloc x):=(Below.refl _ w).alloc (Nat.le_refl _) x
theorem alloc_size (w:World)(x:Obj):(w.alloc x).heap.size=w.heap.size+1:=by show(w.heap.push x).size=_;simp
theorem RelS.upd {d:Nat}{b:Blk}{v:Value}{bl:List (Nat × Blk)}{c:PV}{u:Value}(hd:blk bl d=none)(h:RelS w I val bl c u):RelS w I (upd val d v) ((d,b)::bl) c u:=
 RelS.frame (SameOn.refl _ _) (fun _ h=>h) (ext_cons hd) h
def One (v:Value):Prop:=v.cells=#[v]∧v.oneCell'=true
def Ones (val:Nat→Value)(bl:List (Nat × Blk)):Prop:=∀ d b,blk bl d=some b→b.k≠ .var→One (val d)
theorem Sim.ones (h:Sim B W0 I0 I val fs σ a w):Ones val σ.bl:=by
 intro d b hb hk
 have hB:=h.blocks d b hb
 obtain⟨k,sz,rows⟩:=b
 cases k with
 | var=>exact absurd rfl hk
 | arr=>
  obtain⟨e,xs,G,_,how,_⟩:=hB
  rcases how.2 with ⟨hv,_⟩ | ⟨g,cap,cur,hv,_⟩<;>rw[hv]<;>exact⟨rfl,rfl⟩
 | lit=>
  match rows,hB with
  | [r],hB=>obtain⟨g,hv,_⟩:=hB;rw[hv];exact⟨rfl,rfl⟩
theorem leaf_one {c:PV}{v:Value}{F:Ft}(hl:leafB c=true)(h:RelV w I c v F):One v:=by
 cases h with
 | ow sz rows v e xs F G hu how hr hG hb=>simp[leafB] at hl
 | raw v F h1=>simp[leafB] at hl
 | bad v F h1=>simp[leafB] at hl
 | _=>exact⟨rfl,rfl⟩
theorem slot_one {c:PV}{v:Value}{bl:List (Nat × Blk)}(ho:Ones val bl)(h:RelS w I val bl c v)(hs:slotB c=true):One v:=by
 cases h with
 | leaf c v hl h=>exact leaf_one hl h
 | own d b hb hk=>exact ho d b hb hk
 | pt d i j b g hb hg=>simp[slotB] at hs
 | rd cs a0 vs hI hs0 hc hr=>simp[slotB] at hs
 | agg cs vs h=>simp[slotB] at hs
 | tup cs vs h=>simp[slotB] at hs
 | fn f cs vs h=>simp[slotB] at hs
 | bad v=>simp[slotB] at hs
theorem slots_one {bl:List (Nat × Blk)}(ho:Ones val bl):∀{l:List PV} {vs:List Value},RelSL w I val bl l vs→allB slotB l=true→∀ v∈vs,v.oneCell'=true
 | _,_,.nil,_,v,hv=>by simp at hv
 | _,_,.cons c l u vs h t,ha,v,hv=>by
  simp only[allB,Bool.and_eq_true] at ha
  rcases List.mem_cons.1 hv with rfl | hv
  ·exact(slot_one ho h ha.1).2
  exact slots_one ho t ha.2 v hv
theorem cells_rel {c:PV}{v:Value}{bl:List (Nat × Blk)}(ho:Ones val bl)(h:RelS w I val bl c v)(ha:allB slotB (cellsOf c)=true):RelSL w I val bl (cellsOf c) v.cells.toList:=by
 cases h with
 | leaf c v hl h=>
  have hc:cellsOf c=[c]:=by cases c<;>first | rfl | simp[leafB] at hl
  rw[hc,(leaf_one hl h).1];exact .cons _ _ _ _ (.leaf c v hl h) .nil
 | own d b hb hk=>
  rw[(ho d b hb hk).1];exact .cons _ _ _ _ (.own d b hb hk) .nil
 | pt d i j b g hb hg=>simp[cellsOf,allB,slotB] at ha
 | rd cs a0 vs hI hs hc hr=>simp[cellsOf,allB,slotB] at ha
 | agg cs vs h=>simpa [cellsOf,Value.cells] using h
 | tup cs vs h=>simp[cellsOf,allB,slotB] at ha
 | fn f cs vs h=>simp[cellsOf,allB,slotB] at ha
 | bad v=>simp[cellsOf,allB,slotB] at ha
theorem Sim.newRow (h:Sim B W0 I0 I val fs σ a w){d:Nat}(hd:blk σ.bl d=none){k:BK}{sz:Nat}{r:List PV}{c:Array Value}{t:TypeId}{v:Value}
  (hr:RelSL w I val σ.bl r c.toList) (hl:r.length=sz) (h1:∀ u∈c.toList,u.oneCell'=true) (hk:(k=.var∧v=.pointer (some ⟨w.heap.size,0,none⟩))∨(k=.lit∧v=.slice (some ⟨w.heap.size,0,none⟩) 1 1∧0 < sz)):
  Sim B W0 I0 I (upd val d v) (upd fs d (fun x=>x=w.heap.size)) {σ with bl:=(d,⟨k,sz,[r]⟩)::σ.bl} a (w.alloc (.cells c t)):=by
 have h':=h.grow (below_alloc' w (.cells c t))
 have hr':RelSL (w.alloc (.cells c t)) I (upd val d v) ((d,⟨k,sz,[r]⟩)::σ.bl) r c.toList:=
  RelSL.frame (fun x hx=>(below_alloc' w (.cells c t)).block x (h.lt x hx)) (fun _ h=>h) (ext_cons hd) hr
 have hc:CellsR (w.alloc (.cells c t)) I (upd val d v) ((d,⟨k,sz,[r]⟩)::σ.bl) sz r w.heap.size (fun x=>x=w.heap.size):=⟨t,c,rfl,heap_alloc_new w _,hr',hl,h1⟩
 refine h'.newBlk hd ?_ (fun x hx=> ?_) (fun x hx hI=> ?_) (fun x hx e b he hfs=> ?_)
 ·rcases hk with ⟨rfl,rfl⟩ | ⟨rfl,rfl,h0⟩
  ·exact⟨_,rfl,hc⟩
  exact⟨_,rfl,h0,hc⟩
 ·subst hx;rw[alloc_size];exact⟨h.size _ (Nat.le_refl _),by omega⟩
 ·subst hx;have:=h.lt _ hI;omega
 subst hx;have:=(h.new e b he _ hfs).2;omega
theorem run_newVar' (w:World)(t:TypeId)(v:Value):(newVar t v).run P w=.ok ⟨w.heap.size,0,none⟩ (w.alloc (.cells v.cells t)):=by
 simp[newVar,newRow,newObj,Sem.run]
theorem goes_box (h:Sim B W0 I0 I val fs σ a w){t:TypeId}{x:Operand}(ho:o.op=.box t x)(hs:stBox T σ o.dst t (σ.get x)=some σ'):Goes P B W0 I0 o a w σ':=by
 unfold stBox at hs
 split at hs
 ·rename_i d i hd ht
  split at hs
  ·rename_i hb
   split at hs
   ·rename_i hc
    simp only[Bool.and_eq_true] at hc
    simp only[Option.some.injEq] at hs
    subst hs
    have hr:=cells_rel h.ones (h.eval x) hc.2
    have hn:=h.newRow hb (k:=.var) (t:=t) (sz:=i.size) hr (nq_eq hc.1) (slots_one h.ones hr hc.2) (.inl ⟨rfl,rfl⟩)
    have hp:=hn.put (some d) (c:=.pt d 0 0) (v:=.pointer (some ⟨w.heap.size,0,none⟩)) (by
     have:=RelS.pt (w:=w.alloc (.cells (a.eval x).cells t)) (I:=I) (val:=upd val d (.pointer (some ⟨w.heap.size,0,none⟩))) d 0 0 ⟨.var,i.size,[cellsOf (σ.get x)]⟩ w.heap.size
      (bl:=(d,⟨.var,i.size,[cellsOf (σ.get x)]⟩)::σ.bl) (by rw[blk_cons,if_pos rfl]) (by rw[upd_same];rfl)
     simpa using this)
    refine⟨.pointer (some ⟨w.heap.size,0,none⟩),w.alloc (.cells (a.eval x).cells t),.inl (by simp[execOp,ho,Instr.box,run_newVar']),?_⟩
    rw[hd]
    exact⟨I,_,_,hp⟩
   cases hs
  cases hs
 cases hs
theorem RelL.slots {bl:List (Nat × Blk)}:∀{l:List PV} {vs:List Value} {F:Ft},RelL w I l vs F→allB leafB l=true→RelSL w I val bl l vs
 | _,_,_,.nil _,_=>.nil
 | _,_,_,.cons c l v vs F G H h t hF hG d,ha=>by
  simp only[allB,Bool.and_eq_true] at ha
  exact .cons _ _ _ _ (.leaf _ _ ha.1 (leaf_any ha.1 h)) (t.slots ha.2)
theorem leaf_slot {l:List PV}(h:allB leafB l=true):allB slotB l=true:=by
 induction l with
 | nil=>rfl
 | cons c l ih=>
  simp only[allB,Bool.and_eq_true] at h ⊢
  refine⟨?_,ih h.2⟩
  have:=h.1
  cases c<;>simp[leafB,slotB] at this ⊢
theorem run_zero {P:Program}{t:TypeId}{inf:TypeInfo}{z:Value}(hi:P.info? t=some inf)(hz:inf.zero=some z)(w:World):(zeroValue t).run P w=.ok z w:=by
 simp[zeroValue,typeInfo,hi,hz,program,Sem.run]
theorem goes_alloc (hT:TyOk P T)(h:Sim B W0 I0 I val fs σ a w){t:TypeId}(ho:o.op=.alloc t)(hs:stAlloc T σ o.dst t=some σ'):Goes P B W0 I0 o a w σ':=by
 unfold stAlloc at hs
 split at hs
 ·rename_i d i hd ht
  obtain⟨inf,z,hi,hsz,_,hz,hzr,hzl,hza,hk⟩:=hT _ _ ht
  split at hs
  ·rename_i hb
   simp only[Option.some.injEq] at hs
   subst hs
   have hr:RelSL w I val σ.bl i.zero z.cells.toList:=(hzr w I).slots hza
   have hn:=h.newRow hb (k:=.var) (t:=t) (sz:=i.size) hr hzl (slots_one h.ones hr (leaf_slot hza)) (.inl ⟨rfl,rfl⟩)
   have hp:=hn.put (some d) (c:=.pt d 0 0) (v:=.pointer (some ⟨w.heap.size,0,none⟩)) (by
    have:=RelS.pt (w:=w.alloc (.cells z.cells t)) (I:=I) (val:=upd val d (.pointer (some ⟨w.heap.size,0,none⟩))) d 0 0 ⟨.var,i.size,[i.zero]⟩ w.heap.size
     (bl:=(d,⟨.var,i.size,[i.zero]⟩)::σ.bl) (by rw[blk_cons,if_pos rfl]) (by rw[upd_same];rfl)
    simpa using this)
   refine⟨.pointer (some ⟨w.heap.size,0,none⟩),w.alloc (.cells z.cells t),.inl (by simp[execOp,ho,Instr.alloc,run_zero hi hz,run_newVar']),?_⟩
   rw[hd]
   exact⟨I,_,_,hp⟩
  cases hs
 cases hs
theorem RelL.append :∀{l l':List PV} {vs vs':List Value} {F G H:Ft},RelL w I l vs F→RelL w I l' vs' G→(∀ b,F b→¬ G b)→(∀ b,F b→H b)→(∀ b,G b→H b)→RelL w I (l++l') (vs++vs') H
 | _,_,_,_,_,_,_,.nil _,h',_,_,hG=>h'.mono hG
 | _,_,_,_,_,_,H,.cons c l v vs F1 G1 H1 h t hF hG d,h',hd,hH,hG'=>
  .cons c _ v _ F1 (fun b=>H b∧¬ F1 b) H h (t.append h' (fun b hb=>hd b (hG b hb)) (fun b hb=>⟨hH b (hG b hb),fun hf=>d b hf hb⟩) (fun b hb=>⟨hG' b hb,fun hf=>hd b (hF b hf) hb⟩))
   (fun b hb=>hH b (hF b hb)) (fun b hb=>hb.1) (fun b hb hx=>hx.2 hb)
theorem RelL.replicate {l:List PV}{vs:List Value}(h:RelL w I l vs none'):∀ n:Nat,RelL w I (List.replicate n l).flatten (List.replicate n vs).flatten none'
 | 0=>.nil _
 | n+1=>by
  simp only[List.replicate_succ,List.flatten_cons]
  exact h.append (h.replicate n) (fun _ h=>h.elim) (fun _ h=>h) (fun _ h=>h)
theorem madeCells_flat (z:Array Value):∀ n:Nat,(madeCells z (n * z.size)).toList=(List.replicate n z.toList).flatten:=by
 intro n
 apply List.ext_getElem?
 intro k
 have hlen:((List.replicate n z.toList).flatten).length=n * z.size:=by simp
 by_cases hk:k < n * z.size
 ·have hz:0 < z.size:=by
   rcases Nat.eq_zero_or_pos z.size with h0 | h0
   ·rw [h0] at hk;omega
   ·exact h0
  have hq:k / z.size < n:=(Nat.div_lt_iff_lt_mul hz).2 hk
  have hm:k % z.size < z.size:=Nat.mod_lt _ hz
  have hk':k=k / z.size * z.size+k % z.size:=by rw[Nat.mul_comm];exact(Nat.div_add_mod k z.size).symm
  have h1:(madeCells z (n * z.size)).toList[k]? =some z[k % z.size]:=by
   simp[madeCells,List.getElem?_map,List.getElem?_range hk,hm]
  have gen:∀(n q r:Nat),q < n→r < z.size→((List.replicate n z.toList).flatten)[q * z.size+r]? =z.toList[r]? :=by
   intro n
   induction n with
   | zero=>intro q r hq;omega
   | succ n ih=>
    intro q r hq hr
    simp only[List.replicate_succ,List.flatten_cons]
    cases q with
    | zero=>rw[Nat.zero_mul,Nat.zero_add,List.getElem?_append_left (by simpa using hr)]
    | succ q=>
     rw[List.getElem?_append_right (by simp[Nat.succ_mul];omega)]
     rw[show(q+1) * z.size+r - z.toList.length=q * z.size+r by simp[Nat.succ_mul];omega]
     exact ih q r (by omega) hr
  have h2:=gen n _ _ hq hm
  rw[← hk'] at h2
  rw[h1,h2]
  simp[hm]
 rw[List.getElem?_eq_none (by simp[size_madeCells];omega),List.getElem?_eq_none (by rw[hlen];omega)]
theorem grown_kept {row:Option Nat}(hg:w.grownBy w' row)(hr:∀ k,row=some k→B k)(hB:∀ x,w.heap.size≤x→B x):Kept B w w':=
 ⟨hg.os,hg.tape,hg.output,hg.size,fun k hk=>hg.block k (Nat.lt_of_not_le fun h=>hk (hB k h)) fun e=>hk (hr k e.symm)⟩
theorem grown_below {N:Nat}{row:Option Nat}(hg:w.grownBy w' row)(hr:∀ k,row=some k→N≤k)(hB:N≤w.heap.size):Below N w w':=
 (Below.refl N w).grown hg hB hr
theorem goes_makeSlice (hT:TyOk P T)(h:Sim B W0 I0 I val fs σ a w){t:TypeId}{l c:Operand}(ho:o.op=.makeSlice t l c)(hs:stMakeSlice T σ o.dst t (σ.get l) (σ.get c)=some σ'):Goes P B W0 I0 o a w σ':=by
 have el:=h.eval l
 have ec:=h.eval c
 unfold stMakeSlice at hs
 split at hs
 ·rename_i d e sz by_ z0 hd ht
  obtain⟨_,_,_,_,_,_,_,_,_,hk⟩:=hT _ _ ht
  have hk:P.underlying t=some (.slice e):=hk
  split at hs
  ·rename_i ie n m hte hl hc
   rw[hl] at el
   rw[hc] at ec
   have el:=rel_int el
   have ec:=rel_int ec
   obtain⟨inf,z,hi,hsz,hby,hz,hzr,hzl,hza,_⟩:=hT _ _ hte
   split at hs
   ·rename_i hcond
    simp only[Bool.and_eq_true,decide_eq_true_eq] at hcond
    obtain⟨⟨⟨⟨rfl,h0⟩,hb⟩,hb0⟩,hs0⟩:=hcond
    split at hs
    ·rename_i hbd
     simp only[Option.some.injEq] at hs
     subst hs
     obtain⟨k,rfl⟩:∃ k:Nat,n=(k:Int):=⟨n.toNat,by omega⟩
     have hkb:k * ie.bytes≤140737488355328:=by
      have:((k * ie.bytes:Nat):Int)≤140737488355328:=by rw[Int.natCast_mul];exact hb
      omega
     have hkm:k≤140737488355328:=Nat.le_trans (Nat.le_mul_of_pos_right k hb0) hkb
     obtain⟨w1,hrun,how,hgr⟩:=run_make_full (P:=P) w 0 t e inf z ie.size hk hi hz hsz .i64 .i64 k (by rw[hby,Nat.mul_comm];omega) (by simp only[maxLen];omega) (Nat.zero_le _)
     have hbel:=grown_below (N:=w.heap.size) hgr (fun k hk=>by cases hk) (Nat.le_refl _)
     have h1:=h.grow hbel
     have hzs:z.cells.size=ie.size:=by have:=(hzr w I).len;simp at this;omega
     have hcells:RelL w1 I (List.replicate k ie.zero).flatten (madeCells z.cells (k * ie.size)).toList none':=by
      rw[← hzs,madeCells_flat]
      exact(hzr w1 I).replicate k
     have hlt:w.heap.size < w1.heap.size:=by
      rcases how.2 with ⟨hv,_⟩ | ⟨g,cap,cur,hv,_,hh,_⟩
      ·cases hv
      simp at hv
      obtain⟨rfl,rfl⟩:=hv
      exact(Array.getElem?_eq_some_iff.1 hh).1
     have hn:=h1.newBlk hbd (b:=⟨.arr,ie.size,List.replicate k ie.zero⟩) (v:=.slice (some ⟨w.heap.size,0,none⟩) k k) (F:=fun x=>x=w.heap.size)
      ⟨e,_,none',fun r hr=>by rw[List.eq_of_mem_replicate hr];exact hzl,by simpa using OwnsW.of how,hcells,fun _ h=>h.elim,fun b hb=>by simp[Value.ownBlock] at hb;exact⟨hb.symm,fun h=>h⟩⟩
      (fun x hx=>by subst hx;exact⟨h.size _ (Nat.le_refl _),hlt⟩) (fun x hx hI=>by subst hx;have:=h.lt _ hI;omega) (fun x hx e' b he hfs=>by subst hx;have:=(h.new e' b he _ hfs).2;omega)
     have hp:=hn.put (some d) (c:=.own d) (v:=.slice (some ⟨w.heap.size,0,none⟩) k k) (by
      have:=RelS.own (w:=w1) (I:=I) (val:=upd val d (.slice (some ⟨w.heap.size,0,none⟩) k k)) (bl:=(d,⟨.arr,ie.size,List.replicate k ie.zero⟩)::σ.bl) d _ (by rw[blk_cons,if_pos rfl]) (by intro h;cases h)
      rwa [upd_same] at this)
     refine⟨.slice (some ⟨w.heap.size,0,none⟩) k k,w1,.inl (by simp[execOp,ho,el,ec,hrun]),?_⟩
     rw[hd]
     exact⟨I,_,_,by simpa [St.put] using hp⟩
    cases hs
   cases hs
  cases hs
 cases hs
def overV :List Value→Nat→List Value→List Value
 | l,_,[]=>l
 | l,j,c::cs=>overV (l.set j c) (j+1) cs
theorem RelSL.over {bl:List (Nat × Blk)}:∀{cs:List PV} {us:List Value},RelSL w I val bl cs us→∀{l:List PV} {vs:List Value} (j:Nat),RelSL w I val bl l vs→RelSL w I val bl (overL l j cs) (overV vs j us)
 | _,_,.nil,_,_,_,h=>h
 | _,_,.cons c cs u us hc t,_,_,j,h=>RelSL.over t (j+1) (h.set j hc)
theorem overL_length :∀(cs l:List PV) (j:Nat),(overL l j cs).length=l.length
 | [],_,_=>rfl
 | c::cs,l,j=>by simp[overL,overL_length cs,setL_length]
theorem allB_set {p:PV→Bool}{c:PV}(hc:p c=true):∀{l:List PV} (j:Nat),allB p l=true→allB p (setL l j c)=true
 | [],_,_=>rfl
 | x::l,0,h=>by simp only[allB,Bool.and_eq_true] at h;simp[setL,allB,hc,h.2]
 | x::l,j+1,h=>by simp only[allB,Bool.and_eq_true] at h;simp[setL,allB,h.1,allB_set hc j h.2]
theorem allB_over {p:PV→Bool}:∀{cs:List PV},allB p cs=true→∀{l:List PV} (j:Nat),allB p l=true→allB p (overL l j cs)=true
 | [],_,_,_,h=>h
 | c::cs,hc,l,j,h=>by
  simp only[allB,Bool.and_eq_true] at hc
  exact allB_over hc.2 (j+1) (allB_set hc.1 j h)
theorem fold_over (off:Nat):∀(us:List Value) (k:Nat) (cells:Array Value),((us.zipIdx k).foldl (fun cs x=>cs.setIfInBounds (off+x.2) x.1) cells).toList=overV cells.toList (off+k) us
 | [],_,_=>rfl
 | u::us,k,cells=>by
  simp only[List.zipIdx_cons,List.foldl_cons,overV]
  rw[fold_over off us (k+1)]
  simp[Nat.add_assoc]
theorem fill_rel {bl:List (Nat × Blk)}(ho:Ones val bl){fs':List (Nat × Nat)}(h:Sim B W0 I0 I val fs σ a w)(hbl:bl=σ.bl):∀(ps:List (Nat × Operand)) (l l':List PV) (cells:Array Value),
  RelSL w I val bl l cells.toList→allB slotB l=true→buildP fs' σ l ps=some l'→
  ∃ cells',Instr.fill (fun i=>fs'[i]?) cells (ps.map fun x=>(x.1,a.eval x.2))=some cells'∧RelSL w I val bl l' cells'.toList
 | [],l,l',cells,hr,_,hb=>by
  simp only[buildP,Option.some.injEq] at hb
  subst hb
  exact⟨cells,rfl,hr⟩
 | (i,x)::ps,l,l',cells,hr,hall,hb=>by
  simp only[buildP] at hb
  split at hb
  ·rename_i off sz hf
   split at hb
   ·rename_i hc
    simp only[Bool.and_eq_true] at hc
    obtain⟨⟨h1,h2⟩,h3⟩:=hc
    have h1:=nq_eq h1
    have h2:=nle_le h2
    subst hbl
    have hx:=cells_rel ho (h.eval x) h3
    have hsz:(a.eval x).cells.size=sz:=by have:=hx.len;simp at this;omega
    have hcl:cells.size=l.length:=by have:=hr.len;simpa using this
    have ho2:=fold_over off (a.eval x).cells.toList 0 cells
    have hz:((a.eval x).cells.zipIdx.foldl (fun cs x=>cs.setIfInBounds (off+x.2) x.1) cells).toList=overV cells.toList off (a.eval x).cells.toList:=by
     rw[← Array.foldl_toList,Array.toList_zipIdx];simpa using ho2
    obtain⟨cells',hf',hr'⟩:=fill_rel ho h rfl ps (overL l off (cellsOf (σ.get x))) l' ((a.eval x).cells.zipIdx.foldl (fun cs x=>cs.setIfInBounds (off+x.2) x.1) cells)
     (by rw[hz];exact hx.over off hr) (allB_over h3 off hall) hb
    refine⟨cells',?_,hr'⟩
    simp only[List.map_cons,Instr.fill,hf]
    rw[if_neg (by simp;omega)]
    exact hf'
   cases hb
  cases hb
theorem goes_build (hT:TyOk P T)(h:Sim B W0 I0 I val fs σ a w){t:TypeId}{ps:Array (Nat × Operand)}(ho:o.op=.build t ps)(hs:stBuild T σ o.dst t ps.toList=some σ'):Goes P B W0 I0 o a w σ':=by
 unfold stBuild at hs
 split at hs
 ·rename_i fs' sz by_ z0 ht
  obtain⟨inf,z,hi,hsz,hby,hz,hzr,hzl,hza,fields,hu,hm,_⟩:=hT _ _ ht
  split at hs
  ·rename_i l hl
   simp only[Option.some.injEq] at hs
   subst hs
   have hr0:RelSL w I val σ.bl z0 z.cells.toList:=(hzr w I).slots hza
   obtain⟨cells,hfill,hrel⟩:=fill_rel h.ones h rfl ps.toList z0 l z.cells hr0 (leaf_slot hza) hl
   have hb:P.built t (ps.map fun(i,x)=>(i,a.eval x)).toList=some cells:=by
    unfold Program.built
    rw[hi,hu]
    simp only[hz]
    rw[hm]
    simpa using hfill
   have hrun:=run_build (P:=P) w t (ps.map fun(i,x)=>(i,a.eval x)) cells hb
   refine h.value (v:=.agg cells) ?_ ?_
   ·simp only[execOp,ho,Sem.run_bind,hrun,Result.andThen_ok,Sem.run_pure]
   have:=RelS.agg (w:=w) (I:=I) (val:=val) (bl:=σ.bl) l cells.toList hrel
   simpa using this
  cases hs
 cases hs
theorem goes_buildSlice (hT:TyOk P T)(h:Sim B W0 I0 I val fs σ a w){t:TypeId}{len:Nat}{ps:Array (Nat × Operand)}(ho:o.op=.buildSlice t len ps)(hs:stBuildSlice T σ o.dst t len ps.toList=some σ'):Goes P B W0 I0 o a w σ':=by
 unfold stBuildSlice at hs
 split at hs
 ·rename_i d e sz by_ z0 hd ht
  obtain⟨_,_,_,_,_,_,_,_,_,hk⟩:=hT _ _ ht
  have hk:P.underlying t=some (.slice e):=hk
  split at hs
  ·rename_i ie hte hps
   obtain⟨inf,z,hi,hsz,hby,hz,hzr,hzl,hza,_⟩:=hT _ _ hte
   split at hs
   ·rename_i hbd
    simp only[Option.some.injEq] at hs
    subst hs
    have hps':ps=#[]:=by simpa using hps
    subst hps'
    have h1:=h.grow (below_alloc' w (.cells #[] e))
    have hn:=h1.newBlk hbd (b:=⟨.arr,ie.size,[]⟩) (v:=.slice (some ⟨w.heap.size,0,none⟩) 0 0) (F:=fun x=>x=w.heap.size)
     ⟨e,[],none',fun r hr=>by simp at hr,⟨by simp,.inr ⟨w.heap.size,0,#[],rfl,Nat.zero_le _,heap_alloc_new w _,Nat.le_refl _,Nat.zero_le _,by simp,by simp⟩⟩,.nil _,fun _ h=>h.elim,
      fun b hb=>by simp[Value.ownBlock] at hb;exact⟨hb.symm,fun h=>h⟩⟩
     (fun x hx=>by subst hx;rw[alloc_size];exact⟨h.size _ (Nat.le_refl _),by omega⟩) (fun x hx hI=>by subst hx;have:=h.lt _ hI;omega) (fun x hx e' b he hfs=>by subst hx;have:=(h.new e' b he _ hfs).2;omega)
    have hp:=hn.put (some d) (c:=.own d) (v:=.slice (some ⟨w.heap.size,0,none⟩) 0 0) (by
     have:=RelS.own (w:=w.alloc (.cells #[] e)) (I:=I) (val:=upd val d (.slice (some ⟨w.heap.size,0,none⟩) 0 0)) (bl:=(d,⟨.arr,ie.size,[]⟩)::σ.bl) d _ (by rw[blk_cons,if_pos rfl]) (by intro h;cases h)
     rwa [upd_same] at this)
    refine⟨.slice (some ⟨w.heap.size,0,none⟩) 0 0,w.alloc (.cells #[] e),.inl ?_,?_⟩
    ·have hr0:Array.range 0=#[]:=rfl
     simp[execOp,ho,Instr.buildSlice,run_underlying hk,sizeOf,typeInfo,hi,program,Sem.run,Instr.fill,newRow,newObj,hr0]
    rw[hd]
    exact⟨I,_,_,hp⟩
   cases hs
  ·rename_i ie x hte hps
   obtain⟨inf,z,hi,hsz,hby,hz,hzr,hzl,hza,_⟩:=hT _ _ hte
   split at hs
   ·rename_i hc
    simp only[Bool.and_eq_true,decide_eq_true_eq] at hc
    obtain⟨⟨⟨hc1,hc2⟩,hc4⟩,hc3⟩:=hc
    have hc1:=nq_eq hc1
    split at hs
    ·rename_i hbd
     simp only[Option.some.injEq] at hs
     subst hs
     have hps':ps=#[(0,x)]:=by
      apply Array.ext'
      simpa using hps
     subst hps'
     have hr:=cells_rel h.ones (h.eval x) hc3
     have hxs:(a.eval x).cells.size=ie.size:=by have:=hr.len;simp at this;omega
     have hn:=h.newRow hbd (k:=.lit) (t:=e) (sz:=ie.size) (v:=.slice (some ⟨w.heap.size,0,none⟩) 1 1) hr hc1 (slots_one h.ones hr hc3) (.inr ⟨rfl,rfl,hc2⟩)
     have hp:=hn.put (some d) (c:=.own d) (v:=.slice (some ⟨w.heap.size,0,none⟩) 1 1) (by
      have:=RelS.own (w:=w.alloc (.cells (a.eval x).cells e)) (I:=I) (val:=upd val d (.slice (some ⟨w.heap.size,0,none⟩) 1 1)) (bl:=(d,⟨.lit,ie.size,[cellsOf (σ.get x)]⟩)::σ.bl) d _ (by rw[blk_cons,if_pos rfl]) (by intro h;cases h)
      rwa [upd_same] at this)
     have hfill:=Great.fill_whole (s:=inf.size) (by omega) [a.eval x] ((Array.range (1 * inf.size)).map (z.cells[· % z.cells.size]!)) (by simp;omega) (by simp)
     have hrun:=run_buildSlice (P:=P) w t e 1 #[(0,a.eval x)] (a.eval x).cells inf z hk hi hz (by omega) (by omega) (by simpa using hfill)
     refine⟨.slice (some ⟨w.heap.size,0,none⟩) 1 1,w.alloc (.cells (a.eval x).cells e),.inl (by simp[execOp,ho,hrun]),?_⟩
     rw[hd]
     exact⟨I,_,_,hp⟩
    cases hs
   cases hs
  cases hs
 cases hs
theorem partsM_rel (h:Sim B W0 I0 I val fs σ a w):∀(ps:List (Nat × Operand)) (i:Nat) (rows:List (List PV)),partsM σ i ps=some rows→
  ∃ vs:List Value,ps.map (fun x=>(x.1,a.eval x.2))=(vs.zipIdx i).map (fun x=>(x.2,x.1))∧rows.length=vs.length∧(∀ w' I',RelL w' I' rows.flatten vs none')∧(∀ v∈vs,v.cells=#[v])∧(∀ r∈rows,r.length=1)
 | [],i,rows,hp=>by
  simp only[partsM,Option.some.injEq] at hp
  subst hp
  exact⟨[],rfl,rfl,fun _ _=>.nil _,by simp,by simp⟩
 | (j,x)::l,i,rows,hp=>by
  simp only[partsM] at hp
  split at hp
  ·rename_i s hj hx
   split at hp
   ·rename_i rs hrs
    simp only[Option.some.injEq] at hp
    subst hp
    obtain⟨vs,h1,h2,h3,h4,h5⟩:=partsM_rel h l (i+1) rs hrs
    have e:=h.eval x
    rw[hx] at e
    have e:=rel_str e
    refine⟨a.eval x::vs,?_,by simp[h2],fun w' I'=> ?_,?_,?_⟩
    ·simp only[List.map_cons,List.zipIdx_cons,h1,nq_eq hj]
    ·rw [e]
     exact .cons _ _ _ _ none' none' none' (.str _ _) (h3 w' I') (fun _ h=>h) (fun _ h=>h) (fun _ h=>h.elim)
    ·intro v hv
     rcases List.mem_cons.1 hv with rfl | hv
     ·rw [e];rfl
     exact h4 v hv
    intro r hr
    rcases List.mem_cons.1 hr with rfl | hr
    ·rfl
    exact h5 r hr
   cases hp
  ·rename_i k n hj hx
   split at hp
   ·rename_i rs hrs
    simp only[Option.some.injEq] at hp
    subst hp
    obtain⟨vs,h1,h2,h3,h4,h5⟩:=partsM_rel h l (i+1) rs hrs
    have e:=h.eval x
    rw[hx] at e
    have e:=rel_int e
    refine⟨a.eval x::vs,?_,by simp[h2],fun w' I'=> ?_,?_,?_⟩
    ·simp only[List.map_cons,List.zipIdx_cons,h1,nq_eq hj]
    ·rw [e]
     exact .cons _ _ _ _ none' none' none' (.int _ _ _) (h3 w' I') (fun _ h=>h) (fun _ h=>h) (fun _ h=>h.elim)
    ·intro v hv
     rcases List.mem_cons.1 hv with rfl | hv
     ·rw [e];rfl
     exact h4 v hv
    intro r hr
    rcases List.mem_cons.1 hr with rfl | hr
    ·rfl
    exact h5 r hr
   cases hp
  cases hp
theorem goes_buildM (hT:TyOk P T)(h:Sim B W0 I0 I val fs σ a w){t:TypeId}{len:Nat}{ps:Array (Nat × Operand)}(ho:o.op=.buildSlice t len ps)(hs:stBuildM T σ o.dst t len ps.toList=some σ'):Goes P B W0 I0 o a w σ':=by
 unfold stBuildM at hs
 split at hs
 ·rename_i d e sz by_ z0 hd ht
  obtain⟨_,_,_,_,_,_,_,_,_,hk⟩:=hT _ _ ht
  have hk:P.underlying t=some (.slice e):=hk
  split at hs
  ·rename_i ie rows hte hps hbd
   obtain⟨inf,z,hi,hsz,hby,hz,hzr,hzl,hza,_⟩:=hT _ _ hte
   split at hs
   ·rename_i hc
    simp only[Bool.and_eq_true] at hc
    obtain⟨⟨⟨hc1,hc2⟩,hc3⟩,hc4⟩:=hc
    have hc1:=nq_eq hc1
    have hc2:=nq_eq hc2
    have hc3:=nlt_lt hc3
    have hc4:=nle_le hc4
    simp only[Option.some.injEq] at hs
    subst hs
    obtain⟨vs,h1,h2,h3,h4,h5⟩:=partsM_rel h _ _ _ hps
    have hi1:inf.size=1:=by omega
    have hfill:=Great.fill_flat vs ((Array.range (len * inf.size)).map (z.cells[· % z.cells.size]!)) h4 (by simp[hi1];omega)
    have hpm:(ps.map fun(i,x)=>(i,a.eval x)).toList=(vs.zipIdx 0).map (fun x=>(x.2,x.1)):=by
     rw[Array.toList_map];exact h1
    have hrun:=run_buildSlice (P:=P) w t e len (ps.map fun(i,x)=>(i,a.eval x)) vs.toArray inf z hk hi hz (by rw[hi1];omega) (by rw[hi1];omega) (by rw[hpm,hi1];rw[hi1] at hfill;exact hfill)
    have h':=h.grow (below_alloc' w (.cells vs.toArray e))
    have hn:=h'.newBlk hbd (b:=⟨.arr,1,rows⟩) (v:=.slice (some ⟨w.heap.size,0,none⟩) len len) (F:=fun x=>x=w.heap.size)
     ⟨e,vs,none',h5,⟨by simp[h2],.inr ⟨w.heap.size,len,vs.toArray,by rw[hc2],Nat.zero_le _,heap_alloc_new w _,Nat.le_of_eq hc2.symm,by simp only[maxLen];omega,by simp;omega,by simp[h2]⟩⟩,h3 _ _,fun _ h=>h.elim,
      fun b hb=>by simp[Value.ownBlock] at hb;exact⟨hb.symm,fun h=>h⟩⟩
     (fun x hx=>by subst hx;rw[alloc_size];exact⟨h.size _ (Nat.le_refl _),by omega⟩) (fun x hx hI=>by subst hx;have:=h.lt _ hI;omega) (fun x hx e' b he hfs=>by subst hx;have:=(h.new e' b he _ hfs).2;omega)
    have hp:=hn.put (some d) (c:=.own d) (v:=.slice (some ⟨w.heap.size,0,none⟩) len len) (by
     have:=RelS.own (w:=w.alloc (.cells vs.toArray e)) (I:=I) (val:=upd val d (.slice (some ⟨w.heap.size,0,none⟩) len len)) (bl:=(d,⟨.arr,1,rows⟩)::σ.bl) d _ (by rw[blk_cons,if_pos rfl]) (by intro h;cases h)
     rwa [upd_same] at this)
    refine⟨.slice (some ⟨w.heap.size,0,none⟩) len len,w.alloc (.cells vs.toArray e),.inl (by simp[execOp,ho,hrun]),?_⟩
    rw[hd]
    exact⟨I,_,_,hp⟩
   cases hs
  cases hs
 cases hs
theorem stepE_sound (hT:TyOk P T)(h:Sim B W0 I0 I val fs σ a w)(hs:stepE T σ o=some σ'):Goes P B W0 I0 o a w σ':=by
 unfold stepE at hs
 split at hs
 ·rename_i t0 x ho
  split at hs
  ·rename_i k n hx
   simp only[Option.some.injEq] at hs;subst hs
   have e:=h.eval x
   rw[hx] at e
   have e:=rel_int e
   exact h.value (v:=.int k (k.wrap (0 - n))) (by simp[execOp,ho,e,Op.unary,Op.intArith]) (.leaf _ _ rfl (.int _ _ _))
  cases hs
 ·rename_i t len ps ho;exact goes_buildM hT h ho hs
 ·rename_i t x lo hi ho
  split at hs
  ·rename_i s kl l kh m ht hx hl hh
   split at hs
   ·rename_i hc
    simp only[Option.some.injEq] at hs;subst hs
    simp only[Bool.and_eq_true,decide_eq_true_eq] at hc
    obtain⟨⟨h0,h1⟩,h2⟩:=hc
    obtain⟨_,_,_,_,_,_,_,_,_,hk⟩:=hT _ _ ht
    have hk:P.underlying t=some .string:=hk
    have ex:=h.eval x
    rw[hx] at ex
    have ex:=rel_str ex
    have el:=h.eval lo
    rw[hl] at el
    have el:=rel_int el
    have eh:=h.eval hi
    rw[hh] at eh
    have eh:=rel_int eh
    have hrun:(Instr.sliceAt t (.string s) (some (.int kl l)) (some (.int kh m)) none).run P w=.ok (.string (s.extract l.toNat m.toNat)) w:=by
     rw[run_sliceAt_string (h:=hk)]
     have e1:(l.toNat:Int)=l:=Int.toNat_of_nonneg h0
     have e2:(m.toNat:Int)=m:=Int.toNat_of_nonneg (by omega)
     simp[Instr.slice,run_underlying hk,Instr.sliceBounds,run_sliceBound,sliced,h0,h1,h2,e1,e2,(by omega:0≤m)]
    refine h.value (v:=.string (s.extract l.toNat m.toNat)) ?_ (.leaf _ _ rfl (.str _ _))
    simp[execOp,ho,ex,el,eh,hrun]
   cases hs
  cases hs
 ·rename_i c ho
  obtain⟨callee,args,types⟩:=c
  simp only at hs
  split at hs
  ·rename_i x y hargs
   split at hs
   ·rename_i p q hx hy
    simp only[Option.some.injEq] at hs;subst hs
    have hargs':args=#[x,y]:=by apply Array.ext';simpa using hargs
    subst hargs'
    have ex:=h.eval x
    rw[hx] at ex
    have ex:=rel_int ex
    have ey:=h.eval y
    rw[hy] at ey
    have ey:=rel_int ey
    have hm:(if q > p then q else p)=max p q:=by split<;>omega
    refine h.value (v:=.int .i64 (max p q)) ?_ (.leaf _ _ rfl (.int _ _ _))
    simp[execOp,ho,resolve,invoke,builtin,Builtin.max_,Builtin.max2,ex,ey,← hm]
   cases hs
  ·rename_i x y hargs
   split at hs
   ·rename_i p q hx hy
    simp only[Option.some.injEq] at hs;subst hs
    have hargs':args=#[x,y]:=by apply Array.ext';simpa using hargs
    subst hargs'
    have ex:=h.eval x
    rw[hx] at ex
    have ex:=rel_int ex
    have ey:=h.eval y
    rw[hy] at ey
    have ey:=rel_int ey
    have hm:(if q < p then q else p)=min p q:=by split<;>omega
    refine h.value (v:=.int .i64 (min p q)) ?_ (.leaf _ _ rfl (.int _ _ _))
    simp[execOp,ho,resolve,invoke,builtin,Builtin.min_,Builtin.min2,ex,ey,← hm]
   cases hs
  cases hs
 ·rename_i t0 x y t1 ho
  split at hs
  ·rename_i k p kb q hx hy
   split at hs
   ·rename_i hc
    simp only[Option.some.injEq] at hs;subst hs
    simp only[Bool.and_eq_true,decide_eq_true_eq] at hc
    have ex:=h.eval x
    rw[hx] at ex
    have ex:=rel_int ex
    have ey:=h.eval y
    rw[hy] at ey
    have ey:=rel_int ey
    have hn:min q.toNat k.bits=q.toNat:=by omega
    refine h.value (v:=.int k (p.fdiv (2 ^ q.toNat))) ?_ (.leaf _ _ rfl (.int _ _ _))
    have hg:(eqGuard .shr t0 x y (.int k p) (.int kb q)).run P w=.ok () w:=by
     unfold eqGuard
     split<;>simp_all [Sem.run]
    have hb:(binOp .shr t0 (.int k p) (.int kb q)).run P w=.ok (.int k (p.fdiv (2 ^ q.toNat))) w:=by
     simp[binOp,Op.shift,show ¬ q < 0 by omega,hn]
    simp[execOp,ho,ex,ey,hg,hb]
   cases hs
  cases hs
 ·rename_i t x f ho
  split at hs
  ·rename_i fs fl one sz by_ zz cs ht hx
   split at hs
   ·rename_i off fsz hfs hone
    split at hs
    ·rename_i c hc
     simp only[Option.some.injEq] at hs;subst hs
     obtain⟨_,_,_,_,_,_,_,_,_,fields,hu,hm,_,ho1⟩:=hT _ _ ht
     obtain⟨fd,inf,hfd,hoff,_,_⟩:=mapM_get _ _ hm f off fsz hfs
     obtain⟨e,he⟩:=ho1 f fd hone hfd
     have er:=h.eval x
     rw[hx] at er
     generalize hv:a.eval x=v at er
     cases er with
     | leaf c v hl h=>cases hl
     | agg cs vs hr=>
      have hl:=hr.len
      obtain⟨hlt,hce⟩:=List.getElem?_eq_some_iff.1 hc
      have hvo:vs[off]? =some (vs[off]'(by omega)):=List.getElem?_eq_getElem (by omega)
      refine h.value (v:=vs[off]'(by omega)) ?_ (hr.getE off hc hvo)
      have hfd':fields[f]? =some fd:=by simpa using hfd
      have hag:(isAgg fd.type).run P w=.ok false w:=by
       unfold isAgg
       rw[Sem.run_bind,run_underlying he w];rfl
      have hpart:(part fd.type vs.toArray fd.offset).run P w=.ok (vs[off]'(by omega)) w:=by
       unfold part
       rw[Sem.run_bind,hag,Result.andThen_ok]
       simp[hoff,hvo,Sem.run]
      simp[execOp,ho,hv,Instr.field,run_underlying hu,hfd',hpart,asAgg]
    cases hs
   cases hs
  cases hs
 cases hs
end
end Go.Av

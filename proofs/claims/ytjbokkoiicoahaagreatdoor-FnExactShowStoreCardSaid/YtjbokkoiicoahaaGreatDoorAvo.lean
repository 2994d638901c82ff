/- Each operation of the abstract walk is what Go does: loads, addresses, numbers, texts, moves. -/
import Derived.Test.YtjbokkoiicoahaaGreatDoorAve
import Derived.Deep.MidRow
import Derived.Laws.MakeOwn
namespace Go.Av
open Go Go.RowKit
set_option linter.unusedVariables false
set_option linter.unusedSimpArgs false
def KindOk (P:Program)(t:TypeId)(z:List PV):TK→Prop
 | .int k=>P.underlying t=some (.int k)
 | .bool=>P.underlying t=some .bool
 | .str=>P.underlying t=some .string
 | .slice e=>P.underlying t=some (.slice e)
 | .struct fs fl one=>∃ fields:Array Field,P.underlying t=some (.struct fields)∧fields.toList.mapM (fun f=>(P.info? f.type).map fun i=>(f.offset,i.size))=some fs∧(fl=true→P.eqGuardType P.depth t=false∧FlatCmp P t z)∧(∀(k:Nat) (fd:Field),one[k]? =some true→fields.toList[k]? =some fd→∃ e,P.underlying fd.type=some (.slice e))
 | .other=>False
theorem mapM_get {P:Program}:∀(l:List Field) (fs:List (Nat × Nat)),l.mapM (fun f=>(P.info? f.type).map fun i=>(f.offset,i.size))=some fs→∀(k off sz:Nat),fs[k]? =some (off,sz)→
  ∃(fd:Field) (inf:TypeInfo),l[k]? =some fd∧fd.offset=off∧P.info? fd.type=some inf∧inf.size=sz
 | [],fs,h,k,off,sz,hk=>by simp at h;subst h;simp at hk
 | f::l,fs,h,k,off,sz,hk=>by
  simp only[List.mapM_cons,Option.bind_eq_bind,Option.pure_def] at h
  cases hi:P.info? f.type with
  | none=>simp[hi] at h
  | some inf=>
   cases hr:l.mapM (fun f=>(P.info? f.type).map fun i=>(f.offset,i.size)) with
   | none=>simp[hi,hr] at h
   | some rest=>
    simp[hi,hr] at h
    subst h
    cases k with
    | zero=>simp at hk;exact⟨f,inf,by simp,hk.1,hi,hk.2⟩
    | succ k=>simpa using mapM_get l rest hr k off sz (by simpa using hk)
def TyFact (P:Program)(t:TypeId)(i:TI):Prop:=
 ∃ inf z,P.info? t=some inf∧inf.size=i.size∧inf.bytes=i.bytes∧inf.zero=some z∧(∀ w I,RelL w I i.zero z.cells.toList none')∧i.zero.length=i.size∧allB leafB i.zero=true∧KindOk P t i.zero i.kind
def TyOk (P:Program)(T:Tys):Prop:=∀ t i,T t=some i→TyFact P t i
theorem leaf_any {w:World}{I:Ft}{c:PV}{v:Value}{F F':Ft}(hl:leafB c=true)(h:RelV w I c v F):RelV w I c v F':=by
 cases h with
 | int k n F=>exact .int k n _
 | bool b F=>exact .bool b _
 | str s F=>exact .str s _
 | zc F=>exact .zc _
 | raw v F h1=>simp[leafB] at hl
 | bad v F h1=>simp[leafB] at hl
 | slnil sz F=>exact .slnil sz _
 | sl sz rows a cap vs F hu hb hs hc hr hcap=>exact .sl sz rows a cap vs _ hu hb hs hc hr hcap
 | ow sz rows v e xs F G hu how hr hG hb=>simp[leafB] at hl
def Rel2 (w:World)(I:Ft)(val:Nat→Value)(bl:List (Nat × Blk))(cs:List PV)(vs:List Value):Prop:=
 vs.length=cs.length∧∀(k:Nat) (c:PV) (u:Value),cs[k]? =some c→vs[k]? =some u→slotB c=true→RelS w I val bl c u
section
variable {w : World} {I : Ft} {val : Nat → Value} {bl : List (Nat × Blk)}
theorem RelSL.getE :∀{l:List PV} {vs:List Value},RelSL w I val bl l vs→∀(k:Nat) {c:PV} {u:Value},l[k]? =some c→vs[k]? =some u→RelS w I val bl c u
 | _,_,.nil,k,_,_,h,_=>by simp at h
 | _,_,.cons c l v vs h t,0,_,_,h1,h2=>by simp at h1 h2;subst h1;subst h2;exact h
 | _,_,.cons c l v vs h t,k+1,_,_,h1,h2=>t.getE k (by simpa using h1) (by simpa using h2)
theorem RelL.getE :∀{l:List PV} {vs:List Value} {F:Ft},RelL w I l vs F→∀(k:Nat) {c:PV} {u:Value},l[k]? =some c→vs[k]? =some u→∃ G,RelV w I c u G
 | _,_,_,.nil _,k,_,_,h,_=>by simp at h
 | _,_,_,.cons c l v vs F G H h t _ _ _,0,_,_,h1,h2=>by simp at h1 h2;subst h1;subst h2;exact⟨_,h⟩
 | _,_,_,.cons c l v vs F G H h t _ _ _,k+1,_,_,h1,h2=>t.getE k (by simpa using h1) (by simpa using h2)
theorem RelSL.two {l:List PV}{vs:List Value}(h:RelSL w I val bl l vs):Rel2 w I val bl l vs:=⟨h.len,fun k c u h1 h2 _=>h.getE k h1 h2⟩
theorem slot_leaf {c:PV}{v:Value}{F:Ft}(hsl:slotB c=true)(h:RelV w I c v F):RelS w I val bl c v:=by
 cases h with
 | int k n F=>exact .leaf _ _ rfl (.int k n _)
 | bool b F=>exact .leaf _ _ rfl (.bool b _)
 | str s F=>exact .leaf _ _ rfl (.str s _)
 | zc F=>exact .leaf _ _ rfl (.zc _)
 | raw v F h1=>simp[slotB] at hsl
 | bad v F h1=>simp[slotB] at hsl
 | slnil sz F=>exact .leaf _ _ rfl (.slnil sz _)
 | sl sz rows a cap vs F hu hb hs hc hr hcap=>exact .leaf _ _ rfl (.sl sz rows a cap vs _ hu hb hs hc hr hcap)
 | ow sz rows v e xs F G hu how hr hG hb=>simp[slotB] at hsl
theorem RelL.two {l:List PV}{vs:List Value}{F:Ft}(h:RelL w I l vs F):Rel2 w I val bl l vs:=
 ⟨h.len,fun k c u h1 h2 hs=>by obtain⟨G,hG⟩:=h.getE k h1 h2;exact slot_leaf hs hG⟩
theorem Rel2.drop {l:List PV}{vs:List Value}(h:Rel2 w I val bl l vs)(j:Nat):Rel2 w I val bl (l.drop j) (vs.drop j):=by
 refine⟨by simp[h.1],fun k c u h1 h2 hs=>h.2 (j+k) c u ?_ ?_ hs⟩
 ·simpa using h1
 simpa using h2
theorem takeX_spec :∀(n:Nat) (l r:List PV),takeX n l=some r→r=l.take n∧n≤l.length
 | 0,l,r,h=>by simp[takeX] at h;simp[← h]
 | n+1,[],r,h=>by simp[takeX] at h
 | n+1,c::l,r,h=>by
  simp only[takeX] at h
  split at h
  ·rename_i r' hr'
   obtain⟨rfl,hle⟩:=takeX_spec n l r' hr'
   simp at h
   subst h
   exact⟨by simp,by simp;omega⟩
  simp at h
theorem RelSL.of_two :∀{l:List PV} {vs:List Value},Rel2 w I val bl l vs→allB slotB l=true→RelSL w I val bl l vs
 | [],[],_,_=>.nil
 | [],_::_,h,_=>by have:=h.1;simp at this
 | _::_,[],h,_=>by have:=h.1;simp at this
 | c::l,v::vs,h,ha=>by
  simp only[allB,Bool.and_eq_true] at ha
  refine .cons c l v vs (h.2 0 c v (by simp) (by simp) ha.1) (RelSL.of_two ⟨by simpa using h.1,fun k c' u h1 h2 hs=>h.2 (k+1) c' u (by simpa using h1) (by simpa using h2) hs⟩ ha.2)
theorem Rel2.take {l:List PV}{vs:List Value}(h:Rel2 w I val bl l vs)(n:Nat):Rel2 w I val bl (l.take n) (vs.take n):=by
 refine⟨by simp[h.1],fun k c u h1 h2 hs=> ?_⟩
 rw[List.getElem?_take] at h1 h2
 split at h1
 ·rename_i hk;rw[if_pos hk] at h2;exact h.2 k c u h1 h2 hs
 cases h1
theorem KindOk.agg {P:Program}{t:TypeId}{i:TI}{z:List PV}(h:KindOk P t z i.kind)(w:World):(isAgg t).run P w=.ok i.isAgg w:=by
 unfold isAgg TI.isAgg
 rw[Sem.run_bind]
 revert h
 cases i.kind<;>intro h<;>simp only[KindOk] at h
 ·rw [run_underlying h w];rfl
 ·rw [run_underlying h w];rfl
 ·rw [run_underlying h w];rfl
 ·rw [run_underlying h w];rfl
 obtain⟨fields,h,_⟩:=h;rw[run_underlying h w];rfl
theorem run_loadVar_rel {P:Program}{t:TypeId}{i:TI}(hT:TyFact P t i){a:Addr}{cs:List PV}{vs:List Value}{v:PV}
  (hc:∀(j:Nat) (u:Value),vs[j]? =some u→w.cell? (a.add j)=some u) (hR:Rel2 w I val bl cs vs) (hl:loadOf i cs=some v):
  ∃ x,(loadVar t a).run P w=.ok x w∧RelS w I val bl v x:=by
 obtain⟨inf,z,hi,hsz,hby,hz,_,_,_,hk⟩:=hT
 unfold loadVar
 rw[Sem.run_bind,hk.agg w,Result.andThen_ok]
 unfold loadOf at hl
 split at hl
 ·rename_i hag
  rw[hag]
  simp only[if_true]
  split at hl
  ·rename_i r hr
   obtain⟨rfl,hle⟩:=takeX_spec _ _ _ hr
   cases hall:allB slotB (cs.take i.size) with
   | false=>simp[hall] at hl
   | true=>
    simp only[hall,cond_true,Option.some.injEq] at hl
    subst hl
    have hlen:(vs.take i.size).length=i.size:=by simp[hR.1];omega
    have hrun:=run_loadCells_list (P:=P) w a (vs.take i.size) (fun j u hj=>hc j u (by rw[List.getElem?_take] at hj;split at hj;exact hj;cases hj))
    rw[hlen] at hrun
    refine⟨.agg (vs.take i.size).toArray,?_,.agg _ _ (RelSL.of_two (hR.take _) hall)⟩
    simp only[Sem.run_bind,sizeOf,typeInfo,hi,hsz,Sem.run_pure,Result.andThen_ok,program,Sem.run,hrun]
  cases hl
 rename_i hag
 rw[hag]
 simp only[Bool.false_eq_true,if_false]
 split at hl
 ·rename_i c l
  cases hsb:slotB c with
  | false=>simp[hsb] at hl
  | true=>
   simp only[hsb,cond_true,Option.some.injEq] at hl
   subst hl
   cases vs with
   | nil=>have:=hR.1;simp at this
   | cons u vs=>
    have h0:a.add 0=a:=by simp[Addr.add]
    have hcell:=hc 0 u (by simp)
    rw[h0] at hcell
    exact⟨u,by simp[load,Sem.run,hcell],hR.2 0 c u (by simp) (by simp) hsb⟩
 cases hl
theorem flat_get {sz:Nat}:∀(rows:List (List PV)),(∀ r∈rows,r.length=sz)→∀(a:Nat) (r:List PV),rows[a]? =some r→∀(k:Nat),k < r.length→rows.flatten[a * sz+k]? =r[k]?
 | [],_,a,r,h,_,_=>by simp at h
 | r0::rows,hu,0,r,h,k,hk=>by
  simp at h
  subst h
  simp only[List.flatten_cons,Nat.zero_mul,Nat.zero_add]
  rw[List.getElem?_append_left hk]
 | r0::rows,hu,a+1,r,h,k,hk=>by
  have hl:r0.length=sz:=hu r0 (by simp)
  simp only[List.flatten_cons]
  rw[List.getElem?_append_right (by rw[hl,Nat.succ_mul];omega)]
  rw[show(a+1) * sz+k - r0.length=a * sz+k by rw[hl,Nat.succ_mul];omega]
  exact flat_get rows (fun r hr=>hu r (by simp[hr])) a r (by simpa using h) k hk
theorem row_one {α:Type}{x r:α}{a:Nat}(h:[x][a]? =some r):a=0∧r=x:=by
 cases a with
 | zero=>simp at h;exact⟨rfl,h.symm⟩
 | succ a=>simp at h
theorem blk_row {b:Blk}{v:Value}{F:Ft}{a g:Nat}{r:List PV}(hB:BlkR w I val bl b v F)(hr:b.rows[a]? =some r)(hg:baseOf v=some g):
    ∃ vs,(∀(k:Nat) (u:Value),vs[k]? =some u→w.cell? ⟨g,a * b.sz+k,none⟩=some u)∧Rel2 w I val bl r vs:=by
  have one:∀(sz g':Nat) (r0:List PV),CellsR w I val bl sz r0 g' F→[r0][a]? =some r→g'=g→
      ∃ vs,(∀(k:Nat) (u:Value),vs[k]? =some u→w.cell? ⟨g,a * sz+k,none⟩=some u)∧Rel2 w I val bl r vs:=by
    intro sz g' r0 hc hr he
    obtain⟨rfl,rfl⟩:=row_one hr
    subst he
    obtain⟨T,c,_,hh,hs,_,_⟩:=hc
    refine⟨c.toList,fun k u hk=> ?_,hs.two⟩
    rw[Nat.zero_mul,Nat.zero_add,cell_of_row w g' k c T (0,0) hh]
    simpa using hk
  obtain⟨k,sz,rows⟩:=b
  cases k with
  | var=>
    match rows,hB,hr with
    | [r0],hB,hr=>
      obtain⟨g',rfl,hc⟩:=hB
      simp[baseOf] at hg
      exact one sz g' r0 hc hr hg
  | lit=>
    match rows,hB,hr with
    | [r0],hB,hr=>
      obtain⟨g',rfl,_,hc⟩:=hB
      simp[baseOf] at hg
      exact one sz g' r0 hc hr hg
  | arr=>
    obtain⟨e,xs,G,hu,how,hR,_,_⟩:=hB
    have hlen:r.length=sz:=hu r (List.mem_of_getElem? hr)
    have hob:v.ownBlock=some g:=by
      rcases how.2 with ⟨rfl,hn⟩ | ⟨g',cap,cur,rfl,_⟩
      · simp[baseOf] at hg
      · simpa [baseOf,Value.ownBlock] using hg
    have hxl:=hR.len
    refine⟨(xs.drop (a * sz)).take sz,fun k u hk=> ?_,?_,fun k c u h1 h2 hs=> ?_⟩
    · rw[List.getElem?_take] at hk
      split at hk
      · have:=how.cells hob (a * sz+k) u (by simpa using hk)
        rwa [Addr.add_mid,Nat.zero_add] at this
      · cases hk
    · have ha:a < rows.length:=(List.getElem?_eq_some_iff.1 hr).1
      have hx:=how.1
      have:(a+1) * sz≤rows.length * sz:=Nat.mul_le_mul_right _ ha
      rw[Nat.succ_mul] at this
      simp[hlen];omega
    · have hk:k < r.length:=(List.getElem?_eq_some_iff.1 h1).1
      rw[List.getElem?_take] at h2
      split at h2
      · obtain⟨G',hG'⟩:=hR.getE (a * sz+k) (by rw[flat_get rows hu a r hr k hk];exact h1) (by simpa using h2)
        exact slot_leaf hs hG'
      · cases h2
end
section
variable {P : Program} {T : Tys} {B : Ft} {W0 : World} {I0 : Ft} {I : Ft} {val : Nat → Value} {fs : Nat → Ft} {σ σ' : St} {a : Act} {w : World} {o : Oper}
def Goes (P:Program)(B:Ft)(W0:World)(I0:Ft)(o:Oper)(a:Act)(w:World)(σ':St):Prop:=
 ∃ v w',((execOp a.eval o).run P w=.ok (.value v) w'∨((execOp a.eval o).run P w=.ok .skip w'∧v=undef))∧SimE B W0 I0 σ' (a.put o.dst v) w'
theorem Goes.wp (h:Goes P B W0 I0 o a w σ'){next:Act→World→Prop}{Q:Exit→Act→World→Prop}(hn:∀ a' w',SimE B W0 I0 σ' a' w'→next a' w'):o.wp P a w next Q:=by
 obtain⟨v,w',h | ⟨h,rfl⟩,hs⟩:=h
 ·unfold Oper.wp;rw[h];exact hn _ _ hs
 unfold Oper.wp;rw[h];exact hn _ _ hs
theorem Sim.value (h:Sim B W0 I0 I val fs σ a w){c:PV}{v:Value}(hr:(execOp a.eval o).run P w=.ok (.value v) w)(hc:RelS w I val σ.bl c v):Goes P B W0 I0 o a w (σ.put o.dst c):=
 ⟨v,w,.inl hr,I,val,fs,h.put o.dst hc⟩
theorem goes_move (h:Sim B W0 I0 I val fs σ a w){x:Operand}(ho:o.op=.move x∨o.op=.assign x):Goes P B W0 I0 o a w (σ.put o.dst (σ.get x)):=
 h.value (v:=a.eval x) (by rcases ho with ho | ho<;>simp[execOp,ho,Sem.run]) (h.eval x)
theorem rel_bool {t:Bool}{v:Value}{bl:List (Nat × Blk)}(h:RelS w I val bl (.bool t) v):v=.bool t:=by
 cases h with
 | leaf c v hl h=>cases h;rfl
theorem rel_int {k:IntKind}{n:Int}{v:Value}{bl:List (Nat × Blk)}(h:RelS w I val bl (.int k n) v):v=.int k n:=by
 cases h with
 | leaf c v hl h=>cases h;rfl
theorem rel_str {s:ByteArray}{v:Value}{bl:List (Nat × Blk)}(h:RelS w I val bl (.str s) v):v=.string s:=by
 cases h with
 | leaf c v hl h=>cases h;rfl
theorem goes_pick (h:Sim B W0 I0 I val fs σ a w){c x y:Operand}(ho:o.op=.pick c x y){t:Bool}(hc:σ.get c=.bool t):Goes P B W0 I0 o a w (σ.put o.dst (bif t then σ.get x else σ.get y)):=by
 have e:=h.eval c
 rw[hc] at e
 have e:=rel_bool e
 cases t
 ·exact h.value (v:=a.eval y) (by simp[execOp,ho,e,asBool]) (h.eval y)
 exact h.value (v:=a.eval x) (by simp[execOp,ho,e,asBool]) (h.eval x)
theorem goes_not (h:Sim B W0 I0 I val fs σ a w){t0:TypeId}{x:Operand}(ho:o.op=.unOp .not t0 x){t:Bool}(hx:σ.get x=.bool t):Goes P B W0 I0 o a w (σ.put o.dst (.bool !t)):=by
 have e:=h.eval x
 rw[hx] at e
 have e:=rel_bool e
 exact h.value (v:=.bool !t) (by simp[execOp,ho,e,Op.unary]) (.leaf _ _ rfl (.bool _ _))
theorem goes_extract (h:Sim B W0 I0 I val fs σ a w){x:Operand}{n:Nat}(ho:o.op=.extract x n){vs:List PV}(hx:σ.get x=.tup vs)(hn:n < vs.length):Goes P B W0 I0 o a w (σ.put o.dst (getL vs n)):=by
 have e:=h.eval x
 rw[hx] at e
 generalize hv:a.eval x=v at e
 cases e with
 | leaf c v hl h=>cases hl
 | tup cs us hu=>
  have hl:=hu.len
  refine h.value (v:=us.getD n undef) ?_ (hu.get n undef)
  simp[execOp,ho,hv,Instr.extract,List.getD,List.getElem?_eq_getElem (show n < us.length by omega)]
theorem goes_makeFunc (h:Sim B W0 I0 I val fs σ a w){f:FuncId}{first caps:Array Operand}(ho:o.op=.makeFunc (.func f) first caps)(hf:first.toList=[]):
  Goes P B W0 I0 o a w (σ.put o.dst (.fn f (caps.toList.map σ.get))):=by
 have hf':first=#[]:=by simpa using hf
 subst hf'
 have hl:∀(l:List Operand),RelSL w I val σ.bl (l.map σ.get) (l.map a.eval):=by
  intro l
  induction l with
  | nil=>exact .nil
  | cons x l ih=>exact .cons _ _ _ _ (h.eval x) ih
 refine h.value (v:=.func (.func f) #[] (caps.toList.map a.eval).toArray) ?_ (.fn _ _ _ (hl _))
 cases caps;simp[execOp,ho,Instr.makeFunc]
theorem goes_len (hT:TyOk P T)(h:Sim B W0 I0 I val fs σ a w){t:TypeId}{x:Operand}(ho:o.op=.call {callee:=.builtin .len,args:=#[x],argTypes:=#[t]})(hs:stLen T σ o.dst t (σ.get x)=some σ'):
    Goes P B W0 I0 o a w σ':=by
  have hrun:∀ n:Nat,(Builtin.len_ #[t] o.type #[a.eval x]).run P w=.ok (.int .i64 n) w→σ'=σ.put o.dst (.int .i64 n)→Goes P B W0 I0 o a w σ':=by
    intro n hr he
    subst he
    refine h.value (v:=.int .i64 n) ?_ (.leaf _ _ rfl (.int _ _ _))
    simp[execOp,ho,resolve,invoke,builtin,hr]
  have e:=h.eval x
  unfold stLen at hs
  split at hs
  · rename_i el sz by_ z ht
    obtain⟨inf,z,hi,_,_,_,_,_,_,hk⟩:=hT _ _ ht
    have hk:P.underlying t=some (.slice el):=hk
    split at hs
    · rename_i d hx
      rw[hx] at e
      generalize hv:a.eval x=v at e
      cases e with
      | leaf c v hl h=>cases hl
      | own d b hb hkind=>
        rw[hb] at hs
        have hB:=h.blocks d b hb
        obtain⟨k,bsz,rows⟩:=b
        cases k with
        | var=>exact absurd rfl hkind
        | arr=>
          simp only[Option.some.injEq] at hs
          obtain⟨e',xs,G,_,how,_⟩:=hB
          refine hrun rows.length ?_ hs.symm
          rw[hv]
          rcases how.2 with ⟨h1,hn⟩ | ⟨g,cap,cur,h1,_⟩<;>rw[h1]<;>simp[Builtin.len_,run_underlying hk,goInt, *]
        | lit=>
          simp only[Option.some.injEq] at hs
          match rows,hB with
          | [r],hB=>
            obtain⟨g,h1,_⟩:=hB
            refine hrun 1 ?_ hs.symm
            rw[hv,h1]
            simp[Builtin.len_,run_underlying hk,goInt]
    · rename_i sz' rows hx
      rw[hx] at e
      simp only[Option.some.injEq] at hs
      refine hrun rows.length ?_ hs.symm
      generalize hv:a.eval x=v at e
      cases e with
      | leaf c v hl h=>cases h<;>simp[Builtin.len_,run_underlying hk,goInt]
    · rename_i hx
      rw[hx] at e
      simp only[Option.some.injEq] at hs
      refine hrun 0 ?_ (by simpa using hs.symm)
      generalize hv:a.eval x=v at e
      cases e with
      | leaf c v hl h=>cases h<;>simp[Builtin.len_,run_underlying hk,goInt]
    · cases hs
  · rename_i sz by_ z ht
    obtain⟨inf,z,hi,_,_,_,_,_,_,hk⟩:=hT _ _ ht
    have hk:P.underlying t=some .string:=hk
    split at hs
    · rename_i s hx
      rw[hx] at e
      simp only[Option.some.injEq] at hs
      refine hrun s.size ?_ hs.symm
      rw[rel_str e]
      simp[Builtin.len_,run_underlying hk,goInt]
    · cases hs
  · cases hs
theorem goes_nilCheck (h:Sim B W0 I0 I val fs σ a w){x:Operand}(ho:o.op=.nilCheck x){c:PV}(hx:σ.get x=c)(hc:(∃ d i j,c=.pt d i j)∨∃ cs,c=.rd cs):Goes P B W0 I0 o a w (σ.put o.dst c):=by
 have e:=h.eval x
 rw[hx] at e
 refine h.value (v:=a.eval x) ?_ e
 generalize hv:a.eval x=v at e
 rcases hc with ⟨d,i,j,rfl⟩ | ⟨cs,rfl⟩
 ·cases e with
  | leaf c v hl h=>cases hl
  | pt d i j b g hb hg=>simp[execOp,ho,hv]
 cases e with
 | leaf c v hl h=>cases hl
 | rd cs a vs hI hs hc hr=>simp[execOp,ho,hv]
theorem goes_load (hT:TyOk P T)(h:Sim B W0 I0 I val fs σ a w){t:TypeId}{x:Operand}(ho:o.op=.load t x)(hs:stLoad T σ o.dst t (σ.get x)=some σ'):Goes P B W0 I0 o a w σ':=by
 have e:=h.eval x
 unfold stLoad at hs
 split at hs
 ·rename_i i ht
  have hF:=hT _ _ ht
  split at hs
  ·rename_i d r0 j hx
   rw[hx] at e
   generalize hv:a.eval x=v at e
   cases e with
   | leaf c v hl h=>cases hl
   | pt d i' j' b g hb hg=>
    rw[hb] at hs
    simp only at hs
    split at hs
    ·rename_i r hr
     split at hs
     ·rename_i v hl
      simp only[Option.some.injEq] at hs
      subst hs
      obtain⟨vs,hc,hR⟩:=blk_row (h.blocks d b hb) hr hg
      obtain⟨y,hrun,hy⟩:=run_loadVar_rel (P:=P) hF (a:=⟨g,r0 * b.sz+j,none⟩) (vs:=vs.drop j) (fun k u hk=>by
       rw[Addr.add_mid,show r0 * b.sz+j+k=r0 * b.sz+(j+k) by omega]
       exact hc (j+k) u (by simpa using hk)) (hR.drop j) hl
      exact h.value (by simp[execOp,ho,hv,Instr.loadAt,Instr.sureAddr,hrun]) hy
     cases hs
    cases hs
  ·rename_i cs hx
   rw[hx] at e
   split at hs
   ·rename_i v hl
    simp only[Option.some.injEq] at hs
    subst hs
    generalize hv:a.eval x=v at e
    cases e with
    | leaf c v hl h=>cases hl
    | rd cs a0 vs hI hs0 hc hr=>
     obtain⟨y,hrun,hy⟩:=run_loadVar_rel (P:=P) (val:=val) (bl:=σ.bl) hF hc hr.two hl
     exact h.value (by simp[execOp,ho,hv,Instr.loadAt,Instr.sureAddr,hrun]) hy
   cases hs
  cases hs
 cases hs
theorem goes_fieldAddr (hT:TyOk P T)(h:Sim B W0 I0 I val fs σ a w){t:TypeId}{x:Operand}{f:Nat}(ho:o.op=.fieldAddr t x f)(hs:stFieldAddr T σ o.dst t (σ.get x) f=some σ'):Goes P B W0 I0 o a w σ':=by
 have e:=h.eval x
 unfold stFieldAddr at hs
 split at hs
 ·rename_i fs' sz by_ z ht
  obtain⟨inf,z,hi,_,_,_,_,_,_,fields,hu,hm,_⟩:=hT _ _ ht
  have hf:=fun k off sz h=>(by obtain⟨fd,inf,h1,h2⟩:=mapM_get _ _ hm k off sz h;exact⟨fd,inf,by simpa using h1,h2⟩:∃(fd:Field) (inf:TypeInfo),fields[k]? =some fd∧fd.offset=off∧P.info? fd.type=some inf∧inf.size=sz)
  split at hs
  ·rename_i off fsz hfs
   obtain⟨fd,finf,hfd,hoff,hfi,hfsz⟩:=hf _ _ _ hfs
   cases hz:nq fsz 0 with
   | true=>simp[hz] at hs
   | false=>
    have hne:¬ fsz=0:=by intro h0;simp[h0] at hz
    simp only[hz,cond_false] at hs
    have place:∀ ad:Addr,(fieldPlace ad fd).run P w=.ok (ad.add off) w:=by
     intro ad
     simp[fieldPlace,sizeOf,typeInfo,hfi,hfsz,hne,hoff,program,Sem.run]
    split at hs
    ·rename_i d a0 j hx
     rw[hx] at e
     simp only[Option.some.injEq] at hs
     subst hs
     generalize hv:a.eval x=v at e
     cases e with
     | leaf c v hl h=>cases hl
     | pt d i' j' b g hb hg=>
      refine h.value (v:=.pointer (some ⟨g,a0 * b.sz+(j+off),none⟩)) ?_ (.pt d a0 (j+off) b g hb hg)
      simp[execOp,ho,hv,Instr.fieldAt,Instr.sureAddr,run_underlying hu,hfd,place,Addr.add_mid,Nat.add_assoc]
    ·rename_i cs hx
     rw[hx] at e
     simp only[Option.some.injEq] at hs
     subst hs
     generalize hv:a.eval x=v at e
     cases e with
     | leaf c v hl h=>cases hl
     | rd cs a0 vs hI hs0 hc hr=>
      have hsp:(a0.add off).spot=none:=by unfold Addr.add;split<;>simp[hs0]
      have hadd:∀ k,(a0.add off).add k=a0.add (off+k):=by
       intro k
       obtain⟨b0,o0,s0⟩:=a0
       simp at hs0
       subst hs0
       simp only[Addr.add_mid,Nat.add_assoc]
      refine h.value (v:=.pointer (some (a0.add off))) ?_ (.rd (cs.drop off) (a0.add off) (vs.drop off) (fun hne=>by rw[add_block];exact hI (fun h0=>hne (by rw[h0];simp))) hsp
       (fun k u hk=>by rw[hadd];exact hc (off+k) u (by simpa using hk)) (hr.drop off))
      simp[execOp,ho,hv,Instr.fieldAt,Instr.sureAddr,run_underlying hu,hfd,place]
    cases hs
  cases hs
 cases hs
theorem RelL.take {w:World}{I:Ft}:∀{l:List PV} {vs:List Value} {F:Ft},RelL w I l vs F→∀(k:Nat),RelL w I (l.take k) (vs.take k) F
 | _,_,_,h,0=>by simpa using RelL.nil _
 | _,_,_,.nil F,_+1=>.nil F
 | _,_,_,.cons c l v vs F G H h t hF hG d,k+1=>.cons c _ v _ F G H h (t.take k) hF hG d
theorem flat_row {sz:Nat}{rows:List (List PV)}(hu:∀ r∈rows,r.length=sz){a:Nat}{r:List PV}(h:rows[a]? =some r):(rows.flatten.drop (a * sz)).take sz=r:=by
 have hl:=hu r (List.mem_of_getElem? h)
 apply List.ext_getElem?
 intro k
 rw[List.getElem?_take,List.getElem?_drop]
 by_cases hk:k < r.length
 ·rw [if_pos (by omega),flat_get rows hu a r h k hk]
 rw[if_neg (by omega)]
 simp;omega
theorem RelL.row {w:World}{I:Ft}{sz:Nat}{rows:List (List PV)}{vs:List Value}{F:Ft}(hR:RelL w I rows.flatten vs F)(hu:∀ r∈rows,r.length=sz){a:Nat}{r:List PV}(h:rows[a]? =some r):
  RelL w I r ((vs.drop (a * sz)).take sz) F:=by
 have:=(hR.drop (a * sz)).take sz
 rwa [flat_row hu h] at this
theorem goes_indexAddr (hT:TyOk P T)(h:Sim B W0 I0 I val fs σ a w){t:TypeId}{x ix:Operand}(ho:o.op=.indexAddr t x ix)(hs:stIndexAddr T σ o.dst t (σ.get x) (σ.get ix)=some σ'):
    Goes P B W0 I0 o a w σ':=by
  have e:=h.eval x
  have ei:=h.eval ix
  unfold stIndexAddr at hs
  split at hs
  · rename_i el sz by_ z ht
    obtain⟨inf,z,hi,_,_,_,_,_,_,hk⟩:=hT _ _ ht
    have hk:P.underlying t=some (.slice el):=hk
    split at hs
    · rename_i ie k n hte hix
      obtain⟨inf2,_,hi2,hsz2,_⟩:=hT _ _ hte
      rw[hix] at ei
      have ei:=rel_int ei
      have hrun:∀(ad:Addr) (len cap:Nat),a.eval x=.slice (some ad) len cap→0≤n→n < len→(Instr.indexAt t (a.eval x) (a.eval ix)).run P w=.ok (.pointer (some (ad.add (n.toNat * ie.size)))) w:=by
        intro ad len cap hv h0 h1
        rw[hv,ei]
        have hiu:P.underlying t=some (.slice el):=hk
        simp[Instr.indexAt,asIntOf,run_underlying hiu,h0,h1,sizeOf,typeInfo,hi2,hsz2,program,Sem.run]
      split at hs
      · rename_i d hx
        rw[hx] at e
        generalize hv:a.eval x=v at e
        cases e with
        | leaf c v hl h=>cases hl
        | own d b hb hkind=>
          rw[hb] at hs
          simp only at hs
          split at hs
          · rename_i hcond
            simp only[Bool.and_eq_true,decide_eq_true_eq] at hcond
            obtain⟨⟨h0,h1⟩,hbs⟩:=hcond
            have hbs:=nq_eq hbs
            simp only[Option.some.injEq] at hs
            subst hs
            have hB:=h.blocks d b hb
            have key:∃ g cap,val d=.slice (some ⟨g,0,none⟩) b.rows.length cap:=by
              obtain⟨bk,bsz,rows⟩:=b
              cases bk with
              | var=>exact absurd rfl hkind
              | arr=>
                obtain⟨e',xs,G,_,how,_⟩:=hB
                rcases how.2 with ⟨hq,hn⟩ | ⟨g,cap,cur,hq,_⟩
                · simp only at h1;omega
                · exact⟨g,cap,hq⟩
              | lit=>
                match rows,hB with
                | [r],hB=>
                  obtain⟨g,hq,_⟩:=hB
                  exact⟨g,1,hq⟩
            obtain⟨g,cap,hq⟩:=key
            have hr:=hrun ⟨g,0,none⟩ b.rows.length cap (hv.trans hq) h0 h1
            have hgo:=h.value (o:=o) (c:=.pt d n.toNat 0) (v:=.pointer (some ((⟨g,0,none⟩:Addr).add (n.toNat * ie.size)))) (P:=P) (by simp[execOp,ho,hr]) (by
              rw[Addr.add_mid,Nat.zero_add,← hbs]
              exact .pt d n.toNat 0 b g hb (by rw[hq];rfl))
            exact hgo
          · cases hs
      · rename_i sz' rows hx
        rw[hx] at e
        split at hs
        · rename_i hcond
          simp only[Bool.and_eq_true,decide_eq_true_eq] at hcond
          obtain⟨h0,hbs⟩:=hcond
          have hbs:=nq_eq hbs
          split at hs
          · rename_i r hr
            simp only[Option.some.injEq] at hs
            subst hs
            have hlt:n.toNat < rows.length:=(List.getElem?_eq_some_iff.1 hr).1
            have hne:¬ rows=[]:=fun h0=>by subst h0;simp at hlt
            generalize hv:a.eval x=v at e
            cases e with
            | leaf c v hl hR=>
              cases hR with
              | slnil=>simp at hlt
              | sl sz rows ad cap vs F hu hb hs0' hc hr' hcap=>
                have hs0:=hs0' hne
                have hrr:=hrun ad rows.length cap hv h0 (by omega)
                have hadd:∀ k,(ad.add (n.toNat * ie.size)).add k=ad.add (n.toNat * ie.size+k):=by
                  intro k
                  obtain⟨b0,o0,s0⟩:=ad
                  simp at hs0
                  subst hs0
                  simp only[Addr.add_mid,Nat.add_assoc]
                refine h.value (o:=o) (c:=.rd r) (v:=.pointer (some (ad.add (n.toNat * ie.size)))) (P:=P) (by simp[execOp,ho,hrr]) ?_
                subst hbs
                refine .rd r _ ((vs.drop (n.toNat * ie.size)).take ie.size) (fun _=>by rw[add_block];exact hb hne) (by unfold Addr.add;split<;>simp[hs0]) ?_ (hr'.row hu hr)
                intro k u hk
                rw[hadd]
                rw[List.getElem?_take] at hk
                split at hk
                · exact hc _ u (by simpa using hk)
                · cases hk
          · cases hs
        · cases hs
      · cases hs
    · cases hs
  · cases hs
theorem num_rel {bl:List (Nat × Blk)}{c:PV}(h:numB c=true):RelS w I val bl c (toVal c):=by
 cases c<;>simp[numB] at h
 ·exact .leaf _ _ rfl (.int _ _ _)
 ·exact .leaf _ _ rfl (.bool _ _)
 exact .leaf _ _ rfl (.str _ _)
theorem goes_binOp (h:Sim B W0 I0 I val fs σ a w){op:BinOp}{t t':TypeId}{x y:Operand}(ho:o.op=.binOp op t x y t'){c:PV}(hs:binop op (σ.get x) (σ.get y)=some c):
    Goes P B W0 I0 o a w (σ.put o.dst c):=by
  have ex:=h.eval x
  have ey:=h.eval y
  have fin:∀ v,(do eqGuard op t x y (a.eval x) (a.eval y);binOp op t (a.eval x) (a.eval y):Sem Value).run P w=.ok v w→RelS w I val σ.bl c v→Goes P B W0 I0 o a w (σ.put o.dst c):=by
    intro v hr hc
    refine h.value (v:=v) ?_ hc
    simp only[execOp,ho]
    simp only[Sem.run_bind] at hr ⊢
    rw[hr]
    rfl
  unfold binop at hs
  split at hs
  · rename_i k m k' n hx hy
    rw[hx] at ex
    rw[hy] at ey
    have ex:=rel_int ex
    have ey:=rel_int ey
    cases hk:kindB k k' with
    | false=>simp[hk] at hs
    | true=>
      simp only[hk,cond_true] at hs
      have hk:k=k':=of_decide_eq_true hk
      subst hk
      have go:numB c=true→(Go.binOp op t (.int k m) (.int k n)).run P w=.ok (toVal c) w→Goes P B W0 I0 o a w (σ.put o.dst c):=by
        intro hn hr
        refine fin _ ?_ (num_rel hn)
        rw[ex,ey,Sem.run_bind]
        have hg:(eqGuard op t x y (.int k m) (.int k n)).run P w=.ok () w:=by
          unfold eqGuard
          split<;>simp
        rw[hg]
        exact hr
      cases op<;>simp only[intop,bitOp,Option.some.injEq,reduceCtorEq] at hs<;>first
        | (subst hs;exact go rfl (by simp[toVal,Go.binOp,Op.intArith,Op.intCmp,Op.intBits]))
        | (cases hz:decide (n=0) with
           | true=>simp[hz] at hs
           | false=>
             simp only[hz,cond_false,Option.some.injEq] at hs
             subst hs
             have hne:¬ n=0:=of_decide_eq_false hz
             exact go rfl (by simp[toVal,Go.binOp,Op.intDiv,hne]))
  · rename_i s1 s2 hx hy
    rw[hx] at ex
    rw[hy] at ey
    have ex:=rel_str ex
    have ey:=rel_str ey
    have go:numB c=true→(Go.binOp op t (.string s1) (.string s2)).run P w=.ok (toVal c) w→Goes P B W0 I0 o a w (σ.put o.dst c):=by
      intro hn hr
      refine fin _ ?_ (num_rel hn)
      rw[ex,ey,Sem.run_bind]
      have hg:(eqGuard op t x y (.string s1) (.string s2)).run P w=.ok () w:=by
        unfold eqGuard
        split<;>simp
      rw[hg]
      exact hr
    cases op<;>simp only[strop,Option.some.injEq,reduceCtorEq] at hs<;>first
      | (subst hs;exact go rfl (by simp[toVal,Go.binOp,Op.stringOp]))
      | (cases hz:decide (s1.size+s2.size≤140737488355328) with
         | false=>simp[hz] at hs
         | true=>
           simp only[hz,cond_true,Option.some.injEq] at hs
           subst hs
           have hle:s1.size+s2.size≤140737488355328:=of_decide_eq_true hz
           exact go rfl (by
             have:¬ (((s1.size+s2.size:Nat):Int) > IntKind.i64.max):=by rw[show IntKind.i64.max=9223372036854775807 from rfl];omega
             simp only[toVal,Go.binOp,Op.stringOp,this,if_false,Sem.run_pure]))
  · cases hs
def binV (op:BinOp)(a b:Bool):Option Bool:=match op with | .eql=>some (a == b) | .neq=>some !(a == b) | _=>none
theorem rel_aggN {l:List PV}{v:Value}{bl:List (Nat × Blk)}(h:RelS w I val bl (.agg l) v)(hn:∀ c∈l,numB c=true):v=.agg (l.map toVal).toArray:=by
 cases h with
 | leaf c v hl h=>cases hl
 | agg cs vs h=>
  rw[go h hn]
where
 go:∀{l:List PV} {vs:List Value},RelSL w I val bl l vs→(∀ c∈l,numB c=true)→vs=l.map toVal
  | _,_,.nil,_=>rfl
  | _,_,.cons c l v vs h t,hn=>by
   have hc:=hn c (by simp)
   rw[List.map_cons,← go t (fun d hd=>hn d (by simp[hd]))]
   congr 1
   cases c<;>simp[numB] at hc
   ·exact rel_int h
   ·exact rel_bool h
   exact rel_str h
theorem goes_binOpT (hT:TyOk P T)(h:Sim B W0 I0 I val fs σ a w){op:BinOp}{t t':TypeId}{x y:Operand}(ho:o.op=.binOp op t x y t'){c:PV}(hs:binopT T op t (σ.get x) (σ.get y)=some c):
  Goes P B W0 I0 o a w (σ.put o.dst c):=by
 unfold binopT at hs
 split at hs
 ·rename_i b1 b2 hx hy
  split at hs
  case h_2=>cases hs
  rename_i ht
  obtain⟨_,_,_,_,_,_,_,_,_,hu⟩:=hT _ _ ht
  have hu:P.underlying t=some .bool:=hu
  have ex:=h.eval x
  have ey:=h.eval y
  rw[hx] at ex
  rw[hy] at ey
  have ex:=rel_bool ex
  have ey:=rel_bool ey
  have hr:∀ r,binV op b1 b2=some r→c=.bool r→Goes P B W0 I0 o a w (σ.put o.dst c):=by
   intro r hr hc
   subst hc
   refine h.value (v:=.bool r) ?_ (.leaf _ _ rfl (.bool _ _))
   have hg:(eqGuard op t x y (.bool b1) (.bool b2)).run P w=.ok () w:=by
    unfold eqGuard
    split<;>simp
   have hb:(Go.binOp op t (.bool b1) (.bool b2)).run P w=.ok (.bool r) w:=by
    have he:(Op.equal t (.bool b1) (.bool b2)).run P w=.ok (b1 == b2) w:=by
     unfold Op.equal Op.maxDepth
     rw[Op.equalIn.eq_2,Sem.run_bind,run_underlying hu]
     rfl
    cases op<;>simp only[binV,Option.some.injEq,reduceCtorEq] at hr<;>subst hr<;>simp only[Go.binOp,Sem.run_bind,he,Result.andThen_ok,Sem.run_pure]
   simp only[execOp,ho,ex,ey,Sem.run_bind,hg,Result.andThen_ok,hb,Sem.run_pure]
  split at hs
  ·simp only[Option.some.injEq] at hs;exact hr _ rfl hs.symm
  ·simp only[Option.some.injEq] at hs;exact hr _ rfl hs.symm
  cases hs
 ·rename_i l l' hx hy
  split at hs
  case h_2=>cases hs
  rename_i fs0 sz0 by0 z ht
  obtain⟨_,_,_,_,_,_,_,_,_,fields,hu,_,hfl⟩:=hT _ _ ht
  obtain⟨hgd,hcmp⟩:=hfl.1 rfl
  split at hs
  case h_2=>cases hs
  rename_i hk
  simp only[Bool.and_eq_true] at hk
  obtain⟨hk1,hk2⟩:=hk
  have ex:=h.eval x
  have ey:=h.eval y
  rw[hx] at ex
  rw[hy] at ey
  have ex:=rel_aggN ex (sameK_num hk1)
  have ey:=rel_aggN ey (sameK_num hk2)
  have hr:∀ r,binV op (pvEqL l l') true=some r∨(op=.eql∧r=pvEqL l l')∨(op=.neq∧r= !(pvEqL l l'))→(op=.eql∧r=pvEqL l l')∨(op=.neq∧r= !(pvEqL l l'))→c=.bool r→Goes P B W0 I0 o a w (σ.put o.dst c):=by
   intro r _ hr hc
   subst hc
   refine h.value (v:=.bool r) ?_ (.leaf _ _ rfl (.bool _ _))
   have he:=hcmp w l l' hk1 hk2
   have hb:(Go.binOp op t (.agg (l.map toVal).toArray) (.agg (l'.map toVal).toArray)).run P w=.ok (.bool r) w:=by
    rcases hr with ⟨rfl,rfl⟩ | ⟨rfl,rfl⟩<;>simp only[Go.binOp,Sem.run_bind,he,Result.andThen_ok,Sem.run_pure]
   simp only[execOp,ho,ex,ey,Sem.run_bind,run_eqGuard_agg w op t x y _ _ hgd,Result.andThen_ok,hb,Sem.run_pure]
  split at hs
  ·simp only[Option.some.injEq] at hs;exact hr _ (.inr (.inl ⟨rfl,rfl⟩)) (.inl ⟨rfl,rfl⟩) hs.symm
  ·simp only[Option.some.injEq] at hs;exact hr _ (.inr (.inr ⟨rfl,rfl⟩)) (.inr ⟨rfl,rfl⟩) hs.symm
  cases hs
 exact goes_binOp h ho hs
theorem rows_slice {sz:Nat}:∀(rows:List (List PV)),(∀ r∈rows,r.length=sz)→∀(l m:Nat),((rows.drop l).take m).flatten=(rows.flatten.drop (l * sz)).take (m * sz)
 | [],_,l,m=>by simp
 | r::rows,hu,0,0=>by simp
 | r::rows,hu,0,m+1=>by
  have ih:=rows_slice rows (fun r hr=>hu r (by simp[hr])) 0 m
  have hr:r.length=sz:=hu r (by simp)
  simp only[List.drop_zero,Nat.zero_mul] at ih ⊢
  rw[List.take_succ_cons,List.flatten_cons,List.flatten_cons,ih,Nat.succ_mul,Nat.add_comm,List.take_add,← hr]
  simp
 | r::rows,hu,l+1,m=>by
  have ih:=rows_slice rows (fun r hr=>hu r (by simp[hr])) l m
  have hr:r.length=sz:=hu r (by simp)
  rw[List.drop_succ_cons,ih,List.flatten_cons,Nat.succ_mul,Nat.add_comm,← List.drop_drop,← hr]
  simp
theorem rel_bound (h:Sim B W0 I0 I val fs σ a w){n m:Int}{x:Operand}(hb:boundOf σ n (some x)=some m):∃ k,a.eval x=.int k m:=by
 simp only[boundOf] at hb
 split at hb
 ·rename_i k m' hx
  simp only[Option.some.injEq] at hb
  subst hb
  have e:=h.eval x
  rw[hx] at e
  exact⟨k,rel_int e⟩
 cases hb
theorem sl_slice {sz:Nat}{rows:List (List PV)}{ad:Addr}{cap:Nat}{F:Ft}(h:RelV w I (.sl sz rows) (.slice (some ad) rows.length cap) F){l hh:Nat}(h1:l≤hh)(h2:hh≤rows.length):
  RelV w I (.sl sz ((rows.drop l).take (hh - l))) (.slice (if cap=l then some ad else (some ad).map (·.add (l * sz))) (hh - l) (cap - l)) none':=by
 cases h with
 | sl sz rows ad cap vs F hu hb hs hc hr hcap=>
  have hlen:((rows.drop l).take (hh - l)).length=hh - l:=by simp;omega
  have hmem:∀ r∈(rows.drop l).take (hh - l),r∈rows:=fun r hr=>List.mem_of_mem_drop (List.mem_of_mem_take hr)
  have hne:¬ (rows.drop l).take (hh - l)=[]→¬ rows=[]:=fun hn h0=>hn (by rw[h0];simp)
  have hR:RelL w I ((rows.drop l).take (hh - l)).flatten ((vs.drop (l * sz)).take ((hh - l) * sz)) none':=by
   rw[rows_slice rows hu];exact(hr.drop _).take _
  have key:∀ ad':Addr,ad'.block=ad.block→(¬ (rows.drop l).take (hh - l)=[]→ad'=ad.add (l * sz))→RelV w I (.sl sz ((rows.drop l).take (hh - l))) (.slice (some ad') (hh - l) (cap - l)) none':=by
   intro ad' hbl had
   have:=RelV.sl (w:=w) (I:=I) sz ((rows.drop l).take (hh - l)) ad' (cap - l) ((vs.drop (l * sz)).take ((hh - l) * sz)) none' (fun r hr=>hu r (hmem r hr)) (fun hn=>by rw[hbl];exact hb (hne hn))
    (fun hn=>by
     rw[had hn]
     have:=hs (hne hn)
     unfold Addr.add
     split<;>simp[this])
    (fun j u hj=>by
     by_cases hn:(rows.drop l).take (hh - l)=[]
     ·have hl:=hR.len
      rw[hn] at hl
      simp only[List.flatten_nil,List.length_nil] at hl
      have:j < ((vs.drop (l * sz)).take ((hh - l) * sz)).length:=(List.getElem?_eq_some_iff.1 hj).1
      omega
     rw[had hn]
     have hsp:=hs (hne hn)
     obtain⟨b0,o0,s0⟩:=ad
     simp only at hsp
     subst hsp
     rw[Addr.add_mid,Addr.add_mid,Nat.add_assoc]
     rw[List.getElem?_take] at hj
     split at hj
     ·rw [List.getElem?_drop] at hj
      have:=hc (l * sz+j) u hj
      rwa [Addr.add_mid] at this
     cases hj)
    hR (by rw[hlen];omega)
   rwa [hlen] at this
  by_cases hcl:cap=l
  ·rw [if_pos hcl]
   refine key ad rfl fun hn=>absurd ?_ hn
   have:hh - l=0:=by omega
   rw[this,List.take_zero]
  rw[if_neg hcl]
  exact key _ (add_block _ _) fun _=>rfl
theorem goes_sliceO (hT:TyOk P T)(h:Sim B W0 I0 I val fs σ a w){t e:TypeId}{x z:Operand}{sz0 by0:Nat}{z0:List PV}{ie:TI}{d sz:Nat}{rows:List (List PV)}{k:IntKind}{n:Int}(ho:o.op=.slice t x (some z) none none)
  (ht:T t=some ⟨.slice e,sz0,by0,z0⟩) (hte:T e=some ie) (hx:σ.get x=.own d) (hbd:blk σ.bl d=some ⟨.arr,sz,rows⟩) (hz:σ.get z=.int k n) (h0:0≤n) (h1:n≤rows.length) (hs:nq sz ie.size=true):
  Goes P B W0 I0 o a w (σ.put o.dst .bad):=by
 obtain⟨_,_,_,_,_,_,_,_,_,hk⟩:=hT _ _ ht
 have hk:P.underlying t=some (.slice e):=hk
 have he:P.elem t=e:=by simp[Program.elem,hk]
 obtain⟨inf,_,hi',hsz,_⟩:=hT _ _ hte
 have hk':P.underlying t=some (.slice (P.elem t)):=by rw[he];exact hk
 have hsize:∀ w',(sizeOf (P.elem t)).run P w'=.ok inf.size w':=by
  intro w'
  rw[he]
  simp[sizeOf,typeInfo,hi']
 have ex:=h.eval x
 rw[hx] at ex
 have ez:=h.eval z
 rw[hz] at ez
 have ez:=rel_int ez
 have hvd:a.eval x=val d:=by
  generalize a.eval x=v at ex
  cases ex with
  | leaf c v hl h=>cases hl
  | own d b hb hk=>rfl
 obtain⟨e0,xs,G,hu,how,hR,hG,hob⟩:=h.blocks d _ hbd
 have go:∀(ad:Option Addr) (cap:Nat),val d=.slice ad rows.length cap→∃ v,(Instr.sliceAt t (a.eval x) (some (a.eval z)) none none).run P w=.ok v w:=by
  intro ad cap hv
  rw[run_sliceAt_slice (h:=hk'),hvd,hv,ez,run_slice_l (ht:=hk') (h0:=h0) (h1:=h1),hsize]
  simp[Result.andThen,sliced]
 have:∃ v,(Instr.sliceAt t (a.eval x) (some (a.eval z)) none none).run P w=.ok v w:=by
  rcases how.2 with ⟨hv,hn⟩ | ⟨g,cap,cur,hv,_⟩
  ·exact go none 0 (by rw[hv,hn])
  exact go _ cap hv
 obtain⟨v,hv⟩:=this
 refine h.value (v:=v) ?_ (.bad _)
 simp only[execOp,ho,Option.map_none,Option.map_some,Sem.run_bind,hv,Result.andThen_ok,Sem.run_pure]
theorem goes_slice (hT:TyOk P T)(h:Sim B W0 I0 I val fs σ a w){t:TypeId}{x:Operand}{lo hi mx:Option Operand}(ho:o.op=.slice t x lo hi mx)(hs:stSlice T σ o.dst t (σ.get x) lo hi mx=some σ'):Goes P B W0 I0 o a w σ':=by
 unfold stSlice at hs
 split at hs
 case h_2=>cases hs
 rename_i e _ _ _ ht
 obtain⟨_,_,_,_,_,_,_,_,_,hk⟩:=hT _ _ ht
 have hk:P.underlying t=some (.slice e):=hk
 have he:P.elem t=e:=by simp[Program.elem,hk]
 split at hs
 case h_3=>cases hs
 case h_2=>
  rename_i ie d hte hx
  split at hs
  case h_2=>cases hs
  rename_i sz rows z hbd
  split at hs
  case h_2=>cases hs
  rename_i k n hz
  split at hs
  case h_2=>cases hs
  rename_i hc
  simp only[Option.some.injEq] at hs
  subst hs
  simp only[Bool.and_eq_true,decide_eq_true_eq] at hc
  exact goes_sliceO hT h ho ht hte hx hbd hz hc.1.1 hc.1.2 hc.2
 rename_i ie sz rows hte hx
 obtain⟨inf,_,hi',hsz,_⟩:=hT _ _ hte
 split at hs
 case h_2=>cases hs
 rename_i l m hlo hhi
 split at hs
 case h_2=>cases hs
 rename_i hc
 simp only[Option.some.injEq] at hs
 subst hs
 simp only[Bool.and_eq_true,decide_eq_true_eq] at hc
 obtain⟨⟨⟨h0,h1⟩,h2⟩,hbs⟩:=hc
 have hbs:=nq_eq hbs
 have ex:=h.eval x
 rw[hx] at ex
 have hsize:∀ w',(sizeOf (P.elem t)).run P w'=.ok sz w':=by
  intro w'
  rw[he]
  simp[sizeOf,typeInfo,hi',hsz,hbs]
 have hk':P.underlying t=some (.slice (P.elem t)):=by rw[he];exact hk
 have go:∀(ad:Option Addr) (cap:Nat),a.eval x=.slice ad rows.length cap→m≤cap→
   (Instr.sliceAt t (a.eval x) (lo.map a.eval) (hi.map a.eval) none).run P w=.ok (.slice (if cap=l.toNat then ad else ad.map (·.add (l.toNat * sz))) (m.toNat - l.toNat) (cap - l.toNat)) w:=by
  intro ad cap hv hcap
  rw[run_sliceAt_slice (h:=hk'),hv]
  cases lo with
  | none=>
   simp only[boundOf,Option.some.injEq] at hlo
   subst hlo
   cases hi with
   | none=>
    simp only[boundOf,Option.some.injEq] at hhi
    subst hhi
    simp only[Option.map_none]
    rw[run_slice_all (ht:=hk'),hsize]
    simp[Result.andThen,sliced]
   | some y=>
    obtain⟨k,hy⟩:=rel_bound h hhi
    simp only[Option.map_none,Option.map_some,hy]
    rw[run_slice_h (ht:=hk') (h0:=by omega) (h2:=hcap),hsize]
    simp[Result.andThen,sliced]
  | some z=>
   obtain⟨kz,hz⟩:=rel_bound h hlo
   cases hi with
   | none=>
    simp only[boundOf,Option.some.injEq] at hhi
    subst hhi
    simp only[Option.map_none,Option.map_some,hz]
    rw[run_slice_l (ht:=hk') (h0:=h0) (h1:=h1),hsize]
    simp[Result.andThen,sliced]
   | some y=>
    obtain⟨k,hy⟩:=rel_bound h hhi
    simp only[Option.map_some,hz,hy]
    rw[run_slice_lh (ht:=hk') (h0:=h0) (h1:=h1) (h2:=hcap),hsize]
    simp[Result.andThen,sliced]
 cases ex':a.eval x with
 | slice ad n cap=>
  rw[ex'] at ex
  cases ex with
  | leaf c v hl hV=>
   cases hV with
   | slnil=>
    have e1:l=0:=by simp at h2;omega
    have e2:m=0:=by simp at h2;omega
    subst e1;subst e2
    have hg:=go none 0 ex' (by omega)
    refine h.value (v:=.slice none 0 0) ?_ (.leaf _ _ rfl (by simpa using RelV.slnil (w:=w) (I:=I) sz none'))
    simp only[execOp,ho,Option.map_none,Sem.run_bind,hg,Result.andThen_ok,Sem.run_pure]
    simp
   | sl sz rows ad cap vs F hu hb hs0 hcl hr hcap=>
    have hg:=go (some ad) cap ex' (by omega)
    refine h.value (v:=_) ?_ (.leaf _ _ rfl (sl_slice (RelV.sl sz rows ad cap vs none' hu hb hs0 hcl hr hcap) (l:=l.toNat) (hh:=m.toNat) (by omega) (by omega)))
    simp only[execOp,ho,Option.map_none,Sem.run_bind,hg,Result.andThen_ok,Sem.run_pure]
 | _=>rw[ex'] at ex;cases ex with | leaf c v hl hV=>cases hV
end
end Go.Av

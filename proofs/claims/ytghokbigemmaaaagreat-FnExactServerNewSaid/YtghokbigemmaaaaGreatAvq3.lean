/- Lemmas and walks for FnExactServerNew: what each function of the program and of the reference comes to. -/
import Derived.Test.YtghokbigemmaaaaGreatAvz
import Derived.ProofKit
import Derived.Test.YtghokbigemmaaaaGreatChecked
open ByteArray renaming empty→aaM,toList→acy
open Option renaming some→aaQ
open Bool renaming and_eq_true→aaR,and_self→abV,true_and→ab5
open List renaming getElem?_eq_some_iff→aaZ,replicate→aa0,take_add_one→aa6,mem_cons→aa9,append_nil→abm,cons_append→abt
namespace Go.Av
open Go Go.RowKit
set_option linter.unusedVariables false
set_option linter.unusedSimpArgs false
mutual
inductive Sh where
 | int (k:IntKind)
 | bool
 | str
 | slice (e:TypeId) (s:Sh)
 | struct (fs:oU)
inductive oU where
 | nil
 | cons (t:TypeId) (s:Sh) (l:oU)
end
mutual
def Sh.size :Sh->Nat
 | .struct fs=>fs.size
 | _=>1
def oU.size :oU->Nat
 | .nil=>0
 | .cons _ s l=>s.size+l.size
end
def oU.lay :Nat->oU->List (TypeId × Nat × Nat)
 | _,.nil=>[]
 | o,.cons t s l=>(t,o,s.size)::l.lay (o+s.size)
mutual
def Gk (P:Program)(t:TypeId):Sh->Prop
 | .int k=>P.underlying t=some (.int k)
 | .bool=>P.underlying t=some .bool
 | .str=>P.underlying t=some .string
 | .slice e s=>P.underlying t=some (.slice e)/\P.cellsOf e=s.size/\0 < s.size/\Gk P e s
 | .struct fs=>∃ fields:Array Field,P.underlying t=some (.struct fields)/\P.cellsOf t=fs.size/\fields.toList.map (λf=>(f.type,f.offset,P.cellsOf f.type))=fs.lay 0/\JP P fs
def JP (P:Program):oU->Prop
 | .nil=>True
 | .cons t s l=>Gk P t s/\JP P l
end
mutual
def Sh.Is :Sh->List PV->Prop
 | .int k,cs=>∃ n,cs=[.int k n]/\(Lit.int k n).wf=true
 | .bool,cs=>∃ b,cs=[.bool b]
 | .str,cs=>∃ b,cs=[.str b]/\b.size<=maxLen
 | .slice e s,cs=>∃ rows,cs=[.sl s.size rows]/\rows.length<=maxLen/\∀ r∈rows,s.Is r
 | .struct fs,cs=>fs.Is cs
def oU.Is :oU->List PV->Prop
 | .nil,cs=>cs=[]
 | .cons _ s l,cs=>∃ c r,cs=c++r/\s.Is c/\l.Is r
end
section
variable {P : Program} {H : Type} {enc : TypeId × Value -> H} {w : World} {sp : Nat -> Bool} {held : Bool}
def there (w:World):Ft:=λx=>x < w.heap.size
theorem OC {a:Addr}{u:Value}(h:w.cell? a=some u):a.block < w.heap.size/\a.spot=none:=by
 unfold World.cell? at h
 split at h
 ·rename_i c _ _ hh
  refine⟨(Array.getElem?_eq_some_iff.1 hh).1,?_⟩
  cases hs:a.spot with
  | none=>rfl
  | some s=>simp[hs] at h
 cases h
theorem H5 {s:Sh}{e:TypeId}{a:Addr}{base n:Nat}(hsz:P.cellsOf e=s.size)(hpos:0 < s.size)(ih:∀ vs x,DataW.trod enc P w base sp held n e vs=some x->∃ cs,bE w (there w) cs vs bf/\s.Is cs/\cs.length=s.size):
  ∀ m,(∀ i,i < m->∃ y,(w.cells? base (a.add (i * P.cellsOf e)) (P.cellsOf e)).bind (DataW.trod enc P w base sp held n e)=some y)->
  ∃(rows:List (List PV)) (vs:List Value),rows.length=m/\(∀ r∈rows,s.Is r/\r.length=s.size)/\bE w (there w) rows.flatten vs bf/\(∀(j:Nat) (u:Value),vs[j]? =some u->w.cell? (a.add j)=some u)/\(0 < m->a.block < w.heap.size/\a.spot=none)/\vs.length=m * s.size
 | 0,_=>⟨[],[],rfl,λr h=>by simp at h,.nil _,λj u h=>by simp at h,λh=>by omega,by simp⟩
 | m+1,h=>by
  obtain⟨rows,vs,h1,h2,h3,h4,h5,h6⟩:=H5 (a:=a) hsz hpos ih m λi hi=>h i (by omega)
  obtain⟨y,hy⟩:=h m (by omega)
  rw[Option.bind_eq_some_iff] at hy
  obtain⟨us,hus,hy⟩:=hy
  obtain⟨cs,hR,vC,hlen⟩:=ih us y hy
  have hcs:=World.cells?_some hus
  have hul:us.length=s.size:=by rw[hR.len,hlen]
  have hcell:∀(j:Nat) (u:Value),us[j]? =some u->w.cell? ((a.add (m * s.size)).add j)=some u:=by
   intro j u hj
   have hjl:j < us.length:=(aaZ.1 hj).1
   have:=hcs.2.2 j (by omega)
   rw[hsz] at this
   rw[this,hj]
  have h0:∃ u,us[0]? =some u:=⟨us[0]'(by omega),by simp⟩
  obtain⟨u0,hu0⟩:=h0
  have hth:=OC (hcell 0 u0 hu0)
  have hbl:a.block < w.heap.size:=by rw[om,om] at hth;exact hth.1
  have hsp:a.spot=none:=by
   rcases Nat.eq_zero_or_pos m with h0 | h0
   ·subst h0
    have:=hth.2
    simpa [Addr.add] using this
   exact(h5 h0).2
  refine⟨rows++[cs],vs++us,by simp[h1],λr hr=>?_,?_,λj u hj=>?_,λ_=>⟨hbl,hsp⟩,by simp[h6,hul,Nat.succ_mul]⟩
  ·rw [List.mem_append] at hr
   rcases hr with hr | hr
   ·exact h2 r hr
   simp at hr;subst hr;exact⟨vC,hlen⟩
  ·rw [List.flatten_append]
   simp only[List.flatten_cons,List.flatten_nil,abm]
   exact h3.append hR (λ_ h=>h.elim) (λ_ h=>h) (λ_ h=>h)
  rw[List.getElem?_append] at hj
  split at hj
  ·exact h4 j u hj
  rename_i vw
  have:=hcell _ u hj
  obtain⟨b,off,spt⟩:=a
  simp only at hsp
  subst hsp
  rw[Addr.add_mid,Addr.add_mid] at this
  rw[Addr.add_mid,<- this]
  congr 2
  omega
mutual
theorem Gl :∀(s:Sh) (t:TypeId) (fuel base:Nat) (vs:List Value) (x:DataW H × List MemPlace),Gk P t s->DataW.trod enc P w base sp held fuel t vs=some x->∃ cs,bE w (there w) cs vs bf/\s.Is cs/\cs.length=s.size
  | .int k,t,fuel,base,vs,x,ht,h=>by
    obtain⟨n,rfl,_,hwf⟩:=DataW.trod_int ht h
    exact⟨[.int k n],.cons _ _ _ _ bf bf _ (.int k n _) (.nil _) (λ_ h=>h) (λ_ h=>h) (λ_ h=>h.elim),⟨n,rfl,hwf⟩,rfl⟩
  | .bool,t,fuel,base,vs,x,ht,h=>by
    obtain⟨b,rfl,_⟩:=DataW.trod_bool ht h
    exact⟨[.bool b],.cons _ _ _ _ bf bf _ (.bool b _) (.nil _) (λ_ h=>h) (λ_ h=>h) (λ_ h=>h.elim),⟨b,rfl⟩,rfl⟩
  | .str,t,fuel,base,vs,x,ht,h=>by
    obtain⟨b,rfl,_,hb⟩:=DataW.trod_string ht h
    exact⟨[.str b],.cons _ _ _ _ bf bf _ (.str b _) (.nil _) (λ_ h=>h) (λ_ h=>h) (λ_ h=>h.elim),⟨b,rfl,hb⟩,rfl⟩
  | .slice e s,t,fuel,base,vs,x,ht,h=>by
    obtain⟨ht,hsz,hpos,he⟩:=ht
    rcases DataW.trod_slice ht h with ⟨rfl,_⟩ | ⟨a,len,cap,elems,rest,n,_,rfl,_,_,hlc,hcm,hel,hels,_⟩
    · exact⟨[.sl s.size []],.cons _ _ _ _ bf bf _ (.slnil _ _) (.nil _) (λ_ h=>h) (λ_ h=>h) (λ_ h=>h.elim),⟨[],rfl,Nat.zero_le _,λr hr=>by simp at hr⟩,rfl⟩
    · obtain⟨rows,us,h1,h2,h3,h4,h5,_⟩:=H5 (a:=a) hsz hpos (λvs x hx=>Gl s e n base vs x he hx) len (λi hi=>⟨elems[i]'(by omega),by rw[hels i hi];simp⟩)
      refine⟨[.sl s.size rows],.cons _ _ _ _ bf bf _ ?_ (.nil _) (λ_ h=>h) (λ_ h=>h) (λ_ h=>h.elim),⟨rows,rfl,by omega,λr hr=>(h2 r hr).1⟩,rfl⟩
      rw[<- h1]
      have hl:¬ rows=[]->0 < len:=λhne=>by rw[<- h1];exact List.length_pos_iff.2 hne
      exact .sl s.size rows a cap us _ (λr hr=>(h2 r hr).2) (λhne=>(h5 (hl hne)).1) (λhne=>(h5 (hl hne)).2) h4 h3 (by rw[h1];exact hlc)
  | .struct fs,t,fuel,base,vs,x,ht,h=>by
    obtain⟨fields,ht,hsz,hlay,hfs⟩:=ht
    obtain⟨xs,n,_,_,hlen,hxl,hx⟩:=DataW.trod_struct ht h
    obtain⟨cs,hR,vC,hl⟩:=KI fs 0 n base vs hfs λtr htr=>by
      rw[<- hlay,List.mem_map] at htr
      obtain⟨f,hf,rfl⟩:=htr
      obtain⟨i,hi⟩:=List.mem_iff_getElem?.1 hf
      have iX:fields[i]? =some f:=by simpa using hi
      have hil:i < fields.size:=(Array.getElem?_eq_some_iff.1 iX).1
      exact⟨xs[i]'(by omega),by rw[hx i f iX];simp⟩
    refine⟨cs,?_,vC,hl⟩
    have:(vs.drop 0).take fs.size=vs:=by rw[List.drop_zero,<- hsz,<- hlen];exact List.take_length
    rwa [this] at hR
theorem KI :∀(l:oU) (o n base:Nat) (vs:List Value),JP P l->(∀ tr∈l.lay o,∃ x,DataW.trod enc P w base sp held n tr.1 ((vs.drop tr.2.1).take tr.2.2)=some x)->
  ∃ cs,bE w (there w) cs ((vs.drop o).take l.size) bf/\l.Is cs/\cs.length=l.size
 | .nil,o,n,base,vs,_,_=>⟨[],by simp only[oU.size,List.take_zero];exact .nil _,rfl,rfl⟩
 | .cons t s l,o,n,base,vs,ht,h=>by
  obtain⟨x,hx⟩:=h (t,o,s.size) (by simp[oU.lay])
  obtain⟨cs,hR,vC,hl⟩:=Gl s t n base _ x ht.1 hx
  obtain⟨cx,VV,aal,my⟩:=KI l (o+s.size) n base vs ht.2 λtr htr=>h tr (by simp[oU.lay,htr])
  refine⟨cs++cx,?_,⟨cs,cx,rfl,vC,aal⟩,by simp[oU.size,hl,my]⟩
  simp only[oU.size]
  rw[List.take_add,List.drop_drop]
  exact hR.append VV (λ_ h=>h.elim) (λ_ h=>h) (λ_ h=>h)
end
end
end Go.Av
namespace Go.Av
open Go Go.RowKit Go.ChangeShapes
set_option linter.unusedVariables false
set_option linter.unusedSimpArgs false
mutual
theorem Sh.vB :∀(s:Sh) (cs:List PV),s.Is cs->eK bG cs=true
 | .int k,cs,h=>by obtain⟨n,rfl,_⟩:=h;rfl
 | .bool,cs,h=>by obtain⟨b,rfl⟩:=h;rfl
 | .str,cs,h=>by obtain⟨b,rfl,_⟩:=h;rfl
 | .slice e s,cs,h=>by obtain⟨rows,rfl,_⟩:=h;rfl
 | .struct fs,cs,h=>oU.vB fs cs h
theorem oU.vB :∀(l:oU) (cs:List PV),l.Is cs->eK bG cs=true
 | .nil,cs,h=>by subst h;rfl
 | .cons t s l,cs,h=>by
  obtain⟨c,r,rfl,h1,h2⟩:=h
  have a1:=Sh.vB s c h1
  have a2:=oU.vB l r h2
  clear h1 h2
  induction c with
  | nil=>exact a2
  | cons x c ih=>
   simp only[eK,aaR] at a1
   simp only[abt,eK,aaR]
   exact⟨a1.1,ih a1.2⟩
end
def TJ :Sh->List PV->PV
 | .struct _,cs=>.agg cs
 | _,cs=>bM cs 0
def EF :List Sh->List PV->Prop
 | [],l=>l=[]
 | s::ss,l=>∃ cs r,s.Is cs/\l=TJ s cs::r/\EF ss r
def JO (P:Program):List TypeId->List Sh->Prop
 | [],[]=>True
 | t::ts,s::ss=>Gk P t s/\JO P ts ss
 | _,_=>False
section
variable {P : Program} {H : Type} {enc : TypeId × Value -> H} {w W W' : World} {sp : Nat -> Bool} {held : Bool}
theorem rQ {t:TypeId}{v:Value}{r:Reach}{b0:Nat}(h:Value.okWide P w r b0 t v)(hs:∀ fs,P.underlying t≠some (.struct fs))(ha:∀ n e,P.underlying t≠some (.array n e)):Cell.okWide P w r b0 t v:=by
 unfold Value.okWide at h
 split at h
 ·rename_i fs hfs;exact absurd hfs (hs _)
 ·rename_i n e hne;exact absurd hne (ha _ _)
 exact h
theorem Sr (s:Sh){t:TypeId}{v:Value}{d:DataW H}{ps:List MemPlace}{r:Reach}{b0:Nat}{val:Nat->Value}(ht:Gk P t s)(hval:Value.okWide P w r b0 t v)(hd:DataW.Trod enc P w 0 sp held t v d ps):
  ∃ cs,s.Is cs/\bI w (there w) val [] (TJ s cs) v:=by
 obtain⟨fuel,hd⟩:=hd
 obtain⟨cs,hR,vC,hlen⟩:=Gl s t fuel 0 _ _ ht hd
 refine⟨cs,vC,?_⟩
 have one:v.cells.toList=[v]->(∀ c,cs=[c]->bG c=true->bI w (there w) val [] c v):=by
  intro hv c hc hl
  subst hc
  rw[hv] at hR
  cases hR with
  | cons c l v vs F G H h t _ _ _=>exact .leaf _ _ hl (fH hl h)
 cases s with
 | struct fs=>
  obtain⟨fields,hu,_⟩:=ht
  unfold Value.okWide at hval
  rw[hu] at hval
  obtain⟨arr,rfl,_⟩:=hval
  exact .agg cs arr.toList (hR.cC (oU.vB fs cs vC))
 | int k=>
  obtain⟨n,rfl,_⟩:=vC
  have lv:P.underlying t=some (.int k):=ht
  have hc:=rQ hval (by rw[lv];intro _ h;cases h) (by rw[lv];intro _ _ h;cases h)
  unfold Cell.okWide Cell.ok at hc
  rw[lv] at hc
  cases v<;>simp at hc
  exact one rfl _ rfl rfl
 | bool=>
  obtain⟨b,rfl⟩:=vC
  have lv:P.underlying t=some .bool:=ht
  have hc:=rQ hval (by rw[lv];intro _ h;cases h) (by rw[lv];intro _ _ h;cases h)
  unfold Cell.okWide Cell.ok at hc
  rw[lv] at hc
  cases v<;>simp at hc
  exact one rfl _ rfl rfl
 | str=>
  obtain⟨b,rfl,_⟩:=vC
  have lv:P.underlying t=some .string:=ht
  have hc:=rQ hval (by rw[lv];intro _ h;cases h) (by rw[lv];intro _ _ h;cases h)
  unfold Cell.okWide Cell.ok at hc
  rw[lv] at hc
  cases v<;>simp at hc
  exact one rfl _ rfl rfl
 | slice e s=>
  obtain⟨rows,rfl,_⟩:=vC
  obtain⟨lv,_⟩:=ht
  have hc:=rQ hval (by rw[lv];intro _ h;cases h) (by rw[lv];intro _ _ h;cases h)
  unfold Cell.okWide Cell.ok at hc
  rw[lv] at hc
  cases v<;>simp at hc
  exact one rfl _ rfl rfl
theorem HW {r:Reach}{b0:Nat}{val:Nat->Value}:∀(ss:List Sh) (ts:List TypeId) (vs:List Value) (ds:List (DataW H)) (ps:List MemPlace),JO P ts ss->
  (∀(j:Nat) t v,ts[j]? =some t->vs[j]? =some v->Value.okWide P w r b0 t v)->DataW.TrodAll enc P w 0 sp held ts vs ds ps->∃ pvs,aG w (there w) val [] pvs vs/\EF ss pvs
 | [],[],[],[],ps,_,_,_=>⟨[],.nil,rfl⟩
 | [],[],_::_,_,ps,_,_,h=>h.elim
 | [],[],[],_::_,ps,_,_,h=>h.elim
 | [],_::_,_,_,ps,h,_,_=>h.elim
 | _::_,[],_,_,ps,h,_,_=>h.elim
 | s::ss,t::ts,v::vs,d::ds,ps,ht,hval,h=>by
  obtain⟨p,q,h1,h2,_⟩:=h
  obtain⟨cs,vC,hR⟩:=Sr (val:=val) s ht.1 (hval 0 t v rfl rfl) h1
  obtain⟨pvs,TL,hA⟩:=HW (val:=val) ss ts vs ds q ht.2 (λj t' v' hj hv=>hval (j+1) t' v' (by simpa using hj) (by simpa using hv)) h2
  exact⟨_,.cons _ _ _ _ hR TL,cs,pvs,vC,rfl,hA⟩
 | _::_,_::_,[],_,ps,_,_,h=>h.elim
 | _::_,_::_,_::_,[],ps,_,_,h=>h.elim
theorem carried (hl:laidOutB P=true)(hb:Below W.heap.size W W'):∀(ts:List TypeId) (vs:List Value) (ds:List (DataW H)) (ps:List MemPlace),(∀ t∈ts,P.readableRec t=true/\t < P.types.size)->(∀ x∈ps,x.block < W.heap.size)->
  DataW.TrodAll enc P W 0 (λ_=>true) true ts vs ds ps->DataW.TrodAll enc P W' 0 (λb=>decide (b < W.heap.size)) true ts vs ds ps
 | [],[],[],ps,_,_,h=>h
 | [],_::_,_,ps,_,_,h=>h.elim
 | [],[],_::_,ps,_,_,h=>h.elim
 | t::ts,v::vs,d::ds,ps,hr,hlt,h=>by
  obtain⟨p,q,h1,h2,rfl⟩:=h
  exact⟨p,q,Below.trod hl (hr t (by simp)).1 (hr t (by simp)).2 h1 hb (λx hx=>hlt x (by simp[hx])),carried hl hb ts vs ds q (λt' lv=>hr t' (by simp[lv])) (λx hx=>hlt x (by simp[hx])) h2,rfl⟩
 | _::_,[],_,ps,_,_,h=>h.elim
 | _::_,_::_,[],ps,_,_,h=>h.elim
theorem Ov {f:FuncId}{fn:Func}{s:ChangeSpec}{apart fresh handsOn:Bool}{args:Array Value}{ds gs:List (DataW H)}{before:List MemPlace}{tr:TypeId}{ss:List Sh}{r:Reach}{b0:Nat}
    (hl:laidOutB P=true) (hvars:s.vars=[]) (hread:∀ t∈fn.params.toList,P.readableRec t=true/\t < P.types.size) (hres:fn.resultTypes=#[tr]) (hbool:P.underlying tr=some .bool) (hsh:JO P fn.params.toList ss)
    (hfn:∀ ds:List (DataW H),ds.length=fn.params.toList.length->s.fn H ds={results:=[.lit (.bool true)],args:=ds})
    (hreal:∀ pvs,EF ss pvs->Real P f pvs (.bool true)) (hinv:Inv P W)
    (hval:∀(j:Nat) t v,fn.params[j]? =some t->args[j]? =some v->Value.okWide P W r b0 t v) (hW:DataW.Whole enc P fn.params.toList s.vars apart W args.toList ds gs before):
    Calls P f args W λe W'=>∃ v,e=.returned v/\s.post enc P fn apart fresh handsOn false W args v W':=by
  have Z6:=hW
  obtain⟨p,q,hA,hV,rfl,hfz,hnd⟩:=hW
  obtain⟨pvs,TL,TM⟩:=HW (val:=λ_=>default) ss fn.params.toList args.toList ds p hsh (λj t v hj hv=>hval j t v (by simpa using hj) (by simpa using hv)) hA
  have hgs:gs=[]/\q=[]:=by
    rw[hvars] at hV
    cases gs with
    | nil=>exact⟨rfl,hV⟩
    | cons g gs=>exact hV.elim
  obtain⟨rfl,rfl⟩:=hgs
  have hc:=(hreal pvs TM).2 W hinv (there W) args.toList (λ_=>default) TL (λx hx=>hx)
  refine Calls.mono (by simpa using hc) λe W' he=>?_
  cases e with
  | panicked c=>exact he.elim
  | outgrown=>exact he.elim
  | returned v=>
    obtain⟨J,F,hR,_,_,hB⟩:=he
    have hv:v=.bool true:=by
      cases hR with
      | one c v F h=>cases h with
        | one c v F h=>cases h;rfl
    subst hv
    have hlen:ds.length=fn.params.toList.length:=by
      clear TL TM hc hval hfn hread hsh Z6 hR hB hfz hnd hV
      revert hA
      generalize fn.params.toList=ts
      generalize args.toList=vs
      induction ts generalizing vs ds p with
      | nil=>cases vs<;>cases ds<;>intro h<;>first | rfl | exact h.elim
      | cons t ts ih=>cases vs<;>cases ds<;>intro h<;>first | exact h.elim | (obtain⟨p1,q1,_,h2,_⟩:=h;simpa using ih _ _ h2)
    have hb:=hfn (ds++[]) (by simpa using hlen)
    have Z7:=Z6
    refine⟨_,rfl,ds,[],p++[],[],p,[],Z7,?_,?_,?_,?_,λh=>by cases h⟩
    · rw[hres,hb]
      exact trodAll_mk1 (shut_bool hbool true)
    · rw[hb]
      simp only[abm]
      exact carried hl hB _ _ _ _ hread (λx hx=>Z7.lt x (by simp[hx])) hA
    · rw[hvars,hb];rfl
    · exact World.keptBut_mono (λp hp=>⟨hp,.inr (.inl (by simpa using hp))⟩) (hB.frame _)
end
end Go.Av
namespace Go.Av
open Go Go.RowKit
set_option linter.unusedVariables false
set_option linter.unusedSimpArgs false
def wM :List PV->List Value->Bool
 | [],[]=>true
 | .int k n::l,.int k' n'::vs=>decide (k=k') && decide (n=n') && wM l vs
 | .bool b::l,.bool b'::vs=>(b == b') && wM l vs
 | .str s::l,.string s'::vs=>decide (s.data=s'.data) && wM l vs
 | .zc::l,.slice none 0 0::vs=>wM l vs
 | .aa::l,.pointer none::vs=>wM l vs
 | _,_=>false
theorem Sx :∀(l:List PV) (vs:List Value),wM l vs=true->∀ w I,bE w I l vs bf:=by
  intro l vs
  induction l generalizing vs with
  | nil=>intro h w I;cases vs with
    | nil=>exact .nil _
    | cons v vs=>simp[wM] at h
  | cons c l ih=>
    intro h w I
    cases vs with
    | nil=>cases c<;>simp[wM] at h
    | cons v vs=>
      unfold wM at h
      split at h
      · rename_i h1 h2;cases h1
      · rename_i k n l' k' n' xf h1 h2
        cases h1;cases h2
        simp only[aaR,decide_eq_true_eq] at h
        obtain⟨⟨rfl,rfl⟩,h⟩:=h
        exact .cons _ _ _ _ bf bf _ (.int _ _ _) (ih _ h w I) (λ_ h=>h) (λ_ h=>h) (λ_ h=>h.elim)
      · rename_i b l' b' xf h1 h2
        cases h1;cases h2
        simp only[aaR,beq_iff_eq] at h
        obtain⟨rfl,h⟩:=h
        exact .cons _ _ _ _ bf bf _ (.bool _ _) (ih _ h w I) (λ_ h=>h) (λ_ h=>h) (λ_ h=>h.elim)
      · rename_i s l' s' xf h1 h2
        cases h1;cases h2
        simp only[aaR,decide_eq_true_eq] at h
        obtain⟨hs,h⟩:=h
        obtain⟨s⟩:=s
        obtain⟨s'⟩:=s'
        simp only at hs
        subst hs
        exact .cons _ _ _ _ bf bf _ (.str _ _) (ih _ h w I) (λ_ h=>h) (λ_ h=>h) (λ_ h=>h.elim)
      · rename_i l' xf h1 h2
        cases h1;cases h2
        exact .cons _ _ _ _ bf bf _ (.zc _) (ih _ h w I) (λ_ h=>h) (λ_ h=>h) (λ_ h=>h.elim)
      · rename_i l' xf h1 h2
        cases h1;cases h2
        exact .cons _ _ _ _ bf bf _ (.aa _ _ rfl) (ih _ h w I) (λ_ h=>h) (λ_ h=>h) (λ_ h=>h.elim)
      · cases h
def KE (P:Program):List Field->List Bool->Bool
 | _,[]=>true
 | [],_=>true
 | f::l,b::o=>(!b || (match P.underlying f.type with | some (.slice _)=>true | some (.int _)=>true | _=>false)) && KE P l o
theorem MN {P:Program}:∀(l:List Field) (o:List Bool),KE P l o=true->∀(k:Nat) (fd:Field),o[k]? =some true->l[k]? =some fd->(∃ e,P.underlying fd.type=some (.slice e))\/∃ k,P.underlying fd.type=some (.int k)
 | l,[],_,k,fd,h,_=>by simp at h
 | [],_::_,_,k,fd,_,h=>by simp at h
 | f::l,b::o,hb,0,fd,h1,h2=>by
  simp only[List.getElem?_cons_zero,aaQ.injEq] at h1 h2
  subst h1;subst h2
  simp only[KE,Bool.not_true,Bool.false_or,aaR] at hb
  have:=hb.1
  split at this
  ·rename_i e he;exact .inl ⟨e,he⟩
  ·rename_i e he;exact .inr ⟨e,he⟩
  cases this
 | f::l,b::o,hb,k+1,fd,h1,h2=>by
  simp only[KE,aaR] at hb
  exact MN l o hb.2 k fd (by simpa using h1) (by simpa using h2)
def Gn (P:Program)(t:TypeId)(z:List PV)(k:TK):Bool:=
 match k,P.underlying t with
 | .int k,some (.int k')=>decide (k=k')
 | .bool,some .bool=>true
 | .str,some .string=>true
 | .slice e,some (.slice e')=>decide (e=e')
 | .struct fs fl one,some (.struct fields)=>KE P fields.toList one && decide (fields.toList.mapM (λf=>(P.info? f.type).map λi=>(f.offset,i.size))=some fs) && (!fl || (!P.eqGuardType P.depth t && (isStr P t && BR P 20 t z)))
 | .other,some (.pointer _)=>true
 | _,_=>false
theorem Oz {P:Program}{t:TypeId}{z:List PV}{k:TK}(h:Gn P t z k=true):AH P t z k:=by
 unfold Gn at h
 split at h
 ·rename_i k k' hu;simp only[decide_eq_true_eq] at h;subst h;exact hu
 ·rename_i hu;exact hu
 ·rename_i hu;exact hu
 ·rename_i e e' hu;simp only[decide_eq_true_eq] at h;subst h;exact hu
 ·rename_i fs fl one fields hu
  simp only[aaR,decide_eq_true_eq] at h
  refine⟨fields,hu,h.1.2,λhf=>?_,MN _ _ h.1.1⟩
  have h2:=h.2
  subst hf
  simp only[Bool.not_true,Bool.false_or,aaR,Bool.not_eq_true'] at h2
  exact⟨h2.1,RX h2.2.1 h2.2.2⟩
 ·rename_i e hu;exact⟨e,hu⟩
 cases h
def KF :TK->Bool
 | .other=>true
 | _=>false
theorem Qk {k:TK}{b:Bool}(h:(KF k || b)=true):k=.other\/b=true:=by
 cases k<;>simp[KF] at h ⊢<;>exact h
def VT (P:Program)(t:TypeId)(i:TI):Bool:=
  match P.info? t with
  | some inf=>match inf.zero with
    | some z=>nq inf.size i.size && nq inf.bytes i.bytes && wM i.zero z.cells.toList && nq i.zero.length i.size && (KF i.kind || eK bG i.zero) && Gn P t i.zero i.kind
    | none=>false
  | none=>false
theorem VU {P:Program}{t:TypeId}{i:TI}(h:VT P t i=true):Kz P t i:=by
 unfold VT at h
 split at h
 case h_2=>cases h
 rename_i inf hi
 split at h
 case h_2=>cases h
 rename_i z hz
 simp only[aaR] at h
 obtain⟨⟨⟨⟨⟨h1,h2⟩,h3⟩,h4⟩,h5⟩,h6⟩:=h
 exact⟨inf,z,hi,eZ h1,eZ h2,hz,Sx _ _ h3,eZ h4,Qk h5,Oz h6⟩
def Jx :List (Nat × TI)->Nat->Option TI
 | [],_=>none
 | (e,i)::l,t=>bif nq e t then some i else Jx l t
def Sy (P:Program):List (Nat × TI)->Bool
 | []=>true
 | (t,i)::l=>VT P t i && Sy P l
theorem Ms {P:Program}:∀(l:List (Nat × TI)),Sy P l=true->fa P (Jx l)
 | [],_,t,i,h=>by cases h
 | (e,j)::l,h,t,i,ht=>by
  simp only[Sy,aaR] at h
  simp only[Jx] at ht
  cases hb:nq e t with
  | true=>
   rw[hb] at ht
   have hb:=eZ hb
   subst hb
   simp only[cond_true,aaQ.injEq] at ht
   subst ht
   exact VU h.1
  | false=>rw[hb] at ht;exact Ms l h.2 t i ht
mutual
def EH (P:Program)(t:TypeId):Sh->Bool
 | .int k=>match P.underlying t with | some (.int k')=>decide (k'=k) | _=>false
 | .bool=>match P.underlying t with | some .bool=>true | _=>false
 | .str=>match P.underlying t with | some .string=>true | _=>false
 | .slice e s=>(match P.underlying t with | some (.slice e')=>decide (e'=e) | _=>false) && nq (P.cellsOf e) s.size && rZ 0 s.size && EH P e s
 | .struct fs=>(match P.underlying t with | some (.struct fields)=>decide (fields.toList.map (λf=>(f.type,f.offset,P.cellsOf f.type))=fs.lay 0) | _=>false) && nq (P.cellsOf t) fs.size && OA P fs
def OA (P:Program):oU->Bool
 | .nil=>true
 | .cons t s l=>EH P t s && OA P l
end
mutual
theorem KG {P:Program}:∀(t:TypeId) (s:Sh),EH P t s=true->Gk P t s
 | t,.int k,h=>by
  simp only[EH] at h
  split at h
  ·rename_i k' hu;simp only[decide_eq_true_eq] at h;subst h;exact hu
  cases h
 | t,.bool,h=>by
  simp only[EH] at h
  split at h
  ·rename_i hu;exact hu
  cases h
 | t,.str,h=>by
  simp only[EH] at h
  split at h
  ·rename_i hu;exact hu
  cases h
 | t,.slice e s,h=>by
  simp only[EH,aaR] at h
  obtain⟨⟨⟨h1,h2⟩,h3⟩,h4⟩:=h
  split at h1
  ·rename_i e' hu
   simp only[decide_eq_true_eq] at h1
   subst h1
   exact⟨hu,eZ h2,zU h3,KG _ s h4⟩
  cases h1
 | t,.struct fs,h=>by
  simp only[EH,aaR] at h
  obtain⟨⟨h1,h2⟩,h3⟩:=h
  split at h1
  ·rename_i fields hu
   simp only[decide_eq_true_eq] at h1
   exact⟨fields,hu,eZ h2,h1,MO fs h3⟩
  cases h1
theorem MO {P:Program}:∀(l:oU),OA P l=true->JP P l
 | .nil,_=>trivial
 | .cons t s l,h=>by
  simp only[OA,aaR] at h
  exact⟨KG t s h.1,MO l h.2⟩
end
def KH (P:Program):List TypeId->List Sh->Bool
 | [],[]=>true
 | t::ts,s::ss=>EH P t s && KH P ts ss
 | _,_=>false
theorem H4 {P:Program}:∀(ts:List TypeId) (ss:List Sh),KH P ts ss=true->JO P ts ss
 | [],[],_=>trivial
 | [],_::_,h=>by cases h
 | _::_,[],h=>by cases h
 | t::ts,s::ss,h=>by
  simp only[KH,aaR] at h
  exact⟨KG t s h.1,H4 ts ss h.2⟩
theorem real {P : Program} {T : dA} (hT : fa P T) {g : FuncId} {fn : Func} (hf : P.funcs[g]? = some fn) (hn : (fn.name == "runtime.NumGoroutine") = false) {args : List PV} {r : PV} (ha : J0 T ⟨Real P, fo P, jh P, jA P⟩ fn args r) : Real P g args r :=
 OB hT ⟨λ_ _ _ h=>h,λ_ _ _ _ h=>h,λ_ _ _ h=>h,λ_ _ _ _ _ h=>h⟩ hf hn ha
theorem rR {P : Program} {T : dA} (hT : fa P T) {g : FuncId} {fn : Func} (hf : P.funcs[g]? = some fn) (hn : (fn.name == "runtime.NumGoroutine") = false) {args az : List PV} {r : PV} (ha : Eh T ⟨Real P, fo P, jh P, jA P⟩ fn args az r) : fo P g args az r :=
 Mi hT ⟨λ_ _ _ h=>h,λ_ _ _ _ h=>h,λ_ _ _ h=>h,λ_ _ _ _ _ h=>h⟩ hf hn ha
theorem YX {P : Program} {T : dA} (hT : fa P T) {g : FuncId} {fn : Func} (hf : P.funcs[g]? = some fn) (hn : (fn.name == "runtime.NumGoroutine") = false) {args : List PV} {r : PV} (ha : Ei T ⟨Real P, fo P, jh P, jA P⟩ fn args r) : jh P g args r :=
 Mj hT ⟨λ_ _ _ h=>h,λ_ _ _ _ h=>h,λ_ _ _ h=>h,λ_ _ _ _ _ h=>h⟩ hf hn ha
theorem EI {P : Program} {T : dA} (hT : fa P T) {g : FuncId} {fn : Func} (hf : P.funcs[g]? = some fn) (hn : (fn.name == "runtime.NumGoroutine") = false) {cs args cx : List PV} {r : PV} (ha : Ej T ⟨Real P, fo P, jh P, jA P⟩ fn cs args cx r) : jA P g cs args cx r :=
 Mk hT ⟨λ_ _ _ h=>h,λ_ _ _ _ h=>h,λ_ _ _ h=>h,λ_ _ _ _ _ h=>h⟩ hf hn ha
structure ax where
 num:BinOp->IntKind->Int->Int->Int
 cmp:BinOp->Int->Int->Bool
 nZ:BinOp->ByteArray->ByteArray->Bool
 eB:Bool->Bool
 beq:Bool->Bool->Bool
 sd:List PV->List PV->Bool
 bA:ByteArray->Int
 cw:IntKind->Int->Int
 uw:List (List PV)->ByteArray
 ao:List (List PV)->Int
def aj :ax where
 num op k a b:=match op with
  | .add=>k.wrap (a+b)
  | .sub=>k.wrap (a - b)
  | .mul=>k.wrap (a * b)
  | .quo=>k.wrap (a.tdiv b)
  | .rem=>a.tmod b
  | op=>(JF op k a b).getD 0
 cmp op a b:=match op with
  | .eql=>a == b
  | .neq=>a != b
  | .lss=>decide (a < b)
  | .leq=>decide (a<=b)
  | .gtr=>decide (a > b)
  | .geq=>decide (a ≥ b)
  | _=>false
 nZ op a b:=match op with
  | .eql=>a.toList == b.toList
  | .neq=> !(a.toList == b.toList)
  | .lss=>Op.bytesLess a.toList b.toList
  | _=>false
 eB b:= !b
 beq a b:=a == b
 sd l l':=dH l l'
 bA s:=s.size
 cw k n:=k.wrap n
 uw r:=strOfNums (qo r)
 ao r:=r.length
def Qc (A:ax)(op:BinOp)(k:IntKind)(a b:Int):Option PV:=
 match op with
 | .add | .sub | .mul | .and | .or | .xor | .andNot=>some (.int k (A.num op k a b))
 | .quo | .rem=>bif decide (b=0) then none else some (.int k (A.num op k a b))
 | .eql | .neq | .lss | .leq | .gtr | .geq=>some (.bool (A.cmp op a b))
 | _=>none
def Qd (A:ax)(op:BinOp)(a b:ByteArray):Option PV:=
 match op with
 | .eql | .neq | .lss=>some (.bool (A.nZ op a b))
 | _=>none
def KB (A:ax)(T:dA)(op:BinOp)(t:TypeId)(x y:PV):Option PV:=
  match x,y with
  | .int k a,.int k' b=>bif BO k k' then Qc A op k a b else none
  | .str a,.str b=>Qd A op a b
  | .bool a,.bool b=>match T t with
    | some ⟨.bool,_,_,_⟩=>match op with
      | .eql=>some (.bool (A.beq a b))
      | .neq=>some (.bool (A.eB (A.beq a b)))
      | _=>none
    | _=>none
  | .agg l,.agg l'=>match T t with
    | some ⟨.struct _ true _,_,_,z⟩=>match fP z l && fP z l' with
      | true=>match op with
        | .eql=>some (.bool (A.sd l l'))
        | .neq=>some (.bool (A.eB (A.sd l l')))
        | _=>none
      | false=>none
    | _=>none
  | _,_=>none
def VP (A:ax)(T:dA)(σ:St)(t:TypeId)(x:PV):Option PV:=
  match T t with
  | some ⟨.slice _,_,_,_⟩=>match x with
    | .own d=>match av σ.bl d with
      | some ⟨.arr,_,rows⟩=>some (.int .i64 (A.ao rows))
      | some ⟨.lit,_,_⟩=>some (.int .i64 1)
      | some ⟨.mul,_,[r]⟩=>some (.int .i64 r.length)
      | _=>none
    | .sl _ rows=>some (.int .i64 (A.ao rows))
    | .zc=>some (.int .i64 0)
    | _=>none
  | some ⟨.str,_,_,_⟩=>match x with
    | .str s=>some (.int .i64 (A.bA s))
    | _=>none
  | _=>none
def YW (A:ax)(T:dA)(σ:St)(dst:Option Tmp)(t t':TypeId)(x:PV):Option St:=
  match T t,T t' with
  | some ⟨ts,_,_,_⟩,some ⟨.int k,_,_,_⟩=>match ts,x with
    | .int _,.int _ n=>some (σ.put dst (.int k (A.cw k n)))
    | _,_=>none
  | some ⟨.slice e,_,_,_⟩,some ⟨.str,_,_,_⟩=>match NS T e,rowsOf σ.bl x with
    | true,some rows=>bif sb rows then some (σ.put dst (.str (A.uw rows))) else none
    | _,_=>none
  | _,_=>none
def vy (A:ax)(T:dA)(σ:St)(o:Oper):Option St:=
  match o.op with
  | .binOp op t x y _=>match KB A T op t (σ.get x) (σ.get y) with
    | some v=>some (σ.put o.dst v)
    | none=>none
  | .unOp .not _ x=>match σ.get x with
    | .bool t=>some (σ.put o.dst (.bool (A.eB t)))
    | _=>none
  | .convert t t' x=>YW A T σ o.dst t t' (σ.get x)
  | .call c=>match c.callee,c.args.toList,c.argTypes.toList with
    | .builtin .len,[x],[t]=>match VP A T σ t (σ.get x) with
      | some v=>some (σ.put o.dst v)
      | none=>none
    | _,_,_=>step T σ o
  | _=>step T σ o
theorem Ow {T:dA}{op:BinOp}{t:TypeId}{x y v:PV}(h:KB aj T op t x y=some v):pd T op t x y=some v:=by
  unfold KB at h
  split at h
  · simp only[pd,binop]
    rename_i k a k' b
    cases hk:BO k k' with
    | false=>simp[hk] at h
    | true=>
      simp only[hk,cond_true] at h ⊢
      cases op<;>simp only[Qc,aj,aaQ.injEq,reduceCtorEq] at h<;>first
        | (subst h;simp[JG,JF];done)
        | (cases hz:decide (b=0) with
           | true=>simp[hz] at h
           | false=>
             simp only[hz,cond_false,aaQ.injEq] at h
             subst h
             simp[JG,hz])
  · simp only[pd,binop]
    cases op<;>simp only[Qd,aj,aaQ.injEq,reduceCtorEq] at h<;>subst h<;>simp[JH]
  · simp only[pd]
    exact h
  · simp only[pd]
    exact h
  · cases h
theorem mD {T:dA}{σ aA:St}{o:Oper}(h:vy aj T σ o=some aA):step T σ o=some aA:=by
 obtain⟨dst,op,type,pos,after,guard⟩:=o
 cases op<;>simp only[vy] at h<;>try (exact h)
 case binOp bop t x y t'=>
  simp only[step]
  split at h
  ·rename_i v hv
   rw[Ow hv]
   exact h
  cases h
 case unOp u t x=>
  cases u<;>simp only at h<;>try (exact h)
 case call c=>
  split at h
  ·rename_i x t hc ha ht
   split at h
   ·rename_i v hv
    simp only[step,hc,ha,ht,qm]
    simp only[aaQ.injEq] at h
    subst h
    unfold VP at hv
    split at hv
    ·rename_i hT
     simp only[hT]
     split at hv
     ·rename_i d hx
      simp only[hx]
      split at hv
      ·rename_i hb
       simp only[hb]
       simp only[aj,aaQ.injEq] at hv
       rw[hv]
      ·rename_i hb
       simp only[hb]
       simp only[aaQ.injEq] at hv
       rw[hv]
      ·rename_i hb
       simp only[hb]
       simp only[aaQ.injEq] at hv
       rw[hv]
      cases hv
     ·rename_i hx
      simp only[hx]
      simp only[aj,aaQ.injEq] at hv
      rw[hv]
     ·rename_i hx
      simp only[hx]
      simp only[aaQ.injEq] at hv
      rw[hv]
     cases hv
    ·rename_i hT
     simp only[hT]
     split at hv
     ·rename_i hx
      simp only[hx]
      simp only[aj,aaQ.injEq] at hv
      rw[hv]
     cases hv
    cases hv
   cases h
  exact h
def runK (A:ax)(T:dA)(dr:Bool)(all:List Oper):Nat->List Oper->St->Option (List Oper × St)
  | 0,l,σ=>some (l,σ)
  | _+1,[],_=>none
  | n+1,o::l,σ=>match o.guard with
    | none=>match bZ σ o,(!dr || kp o) with
      | none,true=>match vy A T σ o with
        | some aA=>runK A T dr all n l aA
        | none=>none
      | _,_=>none
    | some (j,want)=>match ji all j with
      | some t=>match bM σ.sl t,want with
        | .bool true,true=>match bZ σ o,(!dr || kp o) with
          | none,true=>match vy A T σ o with
            | some aA=>runK A T dr all n l aA
            | none=>none
          | _,_=>none
        | .bool false,false=>match bZ σ o,(!dr || kp o) with
          | none,true=>match vy A T σ o with
            | some aA=>runK A T dr all n l aA
            | none=>none
          | _,_=>none
        | .bool true,false=>runK A T dr all n l (σ.put o.dst (.aw []))
        | .bool false,true=>runK A T dr all n l (σ.put o.dst (.aw []))
        | .aw [],_=>runK A T dr all n l (σ.put o.dst (.aw []))
        | _,_=>none
      | none=>none
section
variable {P : Program} {A : ax} {T : dA} {X : Spec} {all l l' : List Oper} {σ aA : St} {o : Oper} {K : St -> Prop} {Q : AE -> St -> Prop}
theorem lM (hc:bZ σ o=none)(hs:step T σ o=some aA)(h:K aA):rh T X o K σ:=by
 refine .inl ?_
 unfold nS
 rw[hc]
 simp only[hs]
 exact h
theorem um (hc:bZ σ o=none)(hp:kp o=true)(hs:step T σ o=some aA)(h:K aA):JY T X o K σ:=by
 refine .inl ?_
 unfold F5
 rw[hc]
 simp only[hs,hp]
 exact h
theorem ry (hA:A=aj):∀(n:Nat) (l l':List Oper) (σ aA:St),runK A T false all n l σ=some (l',aA)->bN T X all l' K aA->bN T X all l K σ
 | 0,l,l',σ,aA,h,ha=>by
  simp only[runK,aaQ.injEq,Prod.mk.injEq] at h
  obtain⟨rfl,rfl⟩:=h
  exact ha
 | n+1,[],l',σ,aA,h,ha=>by simp[runK] at h
 | n+1,o::l,l',σ,aA,h,ha=>by
  simp only[runK] at h
  simp only[bN]
  have ih:=ry hA n
  split at h
  ·rename_i hg
   simp only[hg]
   split at h
   ·rename_i hc _
    split at h
    ·rename_i aR hs
     exact lM hc (mD (hA ▸ hs)) (ih _ _ _ _ h ha)
    cases h
   cases h
  rename_i j want hg
  split at h
  case h_2=>cases h
  rename_i t ht
  simp only[hg,ht]
  split at h
  ·rename_i _ _ hb
   rw[hb]
   split at h
   ·rename_i hc _
    split at h
    ·rename_i aR hs
     exact⟨λ_=>lM hc (mD (hA ▸ hs)) (ih _ _ _ _ h ha),λh=>by cases h⟩
    cases h
   cases h
  ·rename_i _ _ hb
   rw[hb]
   split at h
   ·rename_i hc _
    split at h
    ·rename_i aR hs
     exact⟨λ_=>lM hc (mD (hA ▸ hs)) (ih _ _ _ _ h ha),λh=>by cases h⟩
    cases h
   cases h
  ·rename_i _ _ hb
   rw[hb]
   exact⟨λh1=>(by cases h1),λ_=>ih _ _ _ _ h ha⟩
  ·rename_i _ _ hb
   rw[hb]
   exact⟨λh1=>(by cases h1),λ_=>ih _ _ _ _ h ha⟩
  ·rename_i hb
   rw[hb]
   exact ih _ _ _ _ h ha
  cases h
theorem yn (hA:A=aj):∀(n:Nat) (l l':List Oper) (σ aA:St),runK A T true all n l σ=some (l',aA)->en T X all l' K aA->en T X all l K σ
 | 0,l,l',σ,aA,h,ha=>by
  simp only[runK,aaQ.injEq,Prod.mk.injEq] at h
  obtain⟨rfl,rfl⟩:=h
  exact ha
 | n+1,[],l',σ,aA,h,ha=>by simp[runK] at h
 | n+1,o::l,l',σ,aA,h,ha=>by
  simp only[runK,Bool.not_true,Bool.false_or] at h
  simp only[en]
  have ih:=yn hA n
  split at h
  ·rename_i hg
   simp only[hg]
   split at h
   ·rename_i hc hp
    split at h
    ·rename_i aR hs
     exact um hc hp (mD (hA ▸ hs)) (ih _ _ _ _ h ha)
    cases h
   cases h
  rename_i j want hg
  split at h
  case h_2=>cases h
  rename_i t ht
  simp only[hg,ht]
  split at h
  ·rename_i _ _ hb
   rw[hb]
   split at h
   ·rename_i hc hp
    split at h
    ·rename_i aR hs
     exact⟨λ_=>um hc hp (mD (hA ▸ hs)) (ih _ _ _ _ h ha),λh=>by cases h⟩
    cases h
   cases h
  ·rename_i _ _ hb
   rw[hb]
   split at h
   ·rename_i hc hp
    split at h
    ·rename_i aR hs
     exact⟨λ_=>um hc hp (mD (hA ▸ hs)) (ih _ _ _ _ h ha),λh=>by cases h⟩
    cases h
   cases h
  ·rename_i _ _ hb
   rw[hb]
   exact⟨λh1=>(by cases h1),λ_=>ih _ _ _ _ h ha⟩
  ·rename_i _ _ hb
   rw[hb]
   exact⟨λh1=>(by cases h1),λ_=>ih _ _ _ _ h ha⟩
  ·rename_i hb
   rw[hb]
   exact ih _ _ _ _ h ha
  cases h
theorem bO (hg:o.guard=none)(hc:bZ σ o=none)(hs:step T σ o=some aA)(h:bN T X all l K aA):bN T X all (o::l) K σ:=by
 simp only[bN,hg];exact lM hc hs h
theorem HC (hg:o.guard=none)(hc:bZ σ o=none)(hp:kp o=true)(hs:step T σ o=some aA)(h:en T X all l K aA):en T X all (o::l) K σ:=by
 simp only[en,hg];exact um hc hp hs h
theorem Ss {g:FuncId}{args:List PV}{d:Nat}(r:PV)(hg:o.guard=none)(hd:o.dst=some d)(hc:bZ σ o=some (g,args))(hX:X g (fD σ.bl args) r)(hf:fresh r\/iT args=true)(hfree:cV σ.bl (gH true d r).2=true)
  (h:bN T X all l K (σ.bind d r)):bN T X all (o::l) K σ:=by
 simp only[bN,hg]
 refine .inl ?_
 unfold nS
 rw[hc,hd]
 exact⟨r,hX,hf,.inl ⟨hfree,h⟩⟩
theorem Qe {g:FuncId}{args:List PV}{d:Nat}(r:PV)(hg:o.guard=none)(hd:o.dst=some d)(hc:bZ σ o=some (g,args))(hX:X g (fD σ.bl args) r)(hf:fresh r\/iT args=true)
  (h:bN T X all l K (σ.put (some d) (froze r))):bN T X all (o::l) K σ:=by
 simp only[bN,hg]
 refine .inl ?_
 unfold nS
 rw[hc,hd]
 exact⟨r,hX,hf,.inr h⟩
theorem Qf {g:FuncId}{args:List PV}{d:Nat}(r:PV)(hg:o.guard=none)(hd:o.dst=some d)(hc:bZ σ o=some (g,args))(hX:X g (fD σ.bl args) r)(hf:fresh r\/iT args=true)
  (h:en T X all l K (σ.put (some d) (froze r))):en T X all (o::l) K σ:=by
 simp only[en,hg]
 refine .inl ?_
 unfold F5
 rw[hc,hd]
 exact⟨r,hX,hf,h⟩
theorem HX :∀(l:List PV) (k:Nat),bT l k (bM l k)=l
 | [],_=>rfl
 | _::_,0=>rfl
 | c::l,k+1=>by simp[bT,bM,HX l k]
theorem yx {k:Nat}{b:Bool}(hk:bM σ.sl k=.bool b):σ.put (some k) (.bool b)=σ:=by
 unfold St.put
 simp only
 rw[<- hk,HX]
theorem ag (k:Nat){b:Bool}(hk:bM σ.sl k=.bool b)(h1:b=true->bN T X all l K (σ.put (some k) (.bool true)))(h0:b=false->bN T X all l K (σ.put (some k) (.bool false))):bN T X all l K σ:=by
 cases b
 ·have:=h0 rfl;rwa [yx hk] at this
 have:=h1 rfl;rwa [yx hk] at this
theorem bV (k:Nat){b:Bool}(hk:bM σ.sl k=.bool b)(h1:b=true->en T X all l K (σ.put (some k) (.bool true)))(h0:b=false->en T X all l K (σ.put (some k) (.bool false))):en T X all l K σ:=by
 cases b
 ·have:=h0 rfl;rwa [yx hk] at this
 have:=h1 rfl;rwa [yx hk] at this
theorem iJ {g:FuncId}{args eR tq:List PV}{r:PV}{cy:List (Nat × aO)}(hg:o.guard=none)(hc:bZ σ o=some (g,args))(hl:vi σ.bl args=some eR)(hnd:zW (pA args)=true)(hX:X.m g eR tq r)(hp:JW r=true)
  (hb:vj σ.bl args tq=some cy) (h:bN T X all l K (St.put {σ with bl:=cy} o.dst r)):bN T X all (o::l) K σ:=by
 simp only[bN,hg]
 exact .inr (.inl ⟨g,args,eR,tq,r,cy,hc,hl,hnd,hX,hp,hb,h⟩)
theorem Dn {t:TypeId}{x:Operand}{i:TI}{dd d a j sz:Nat}{rows:List (List PV)}{r:List PV}{s:Nat}{nrows:List (List PV)}(hg:o.guard=none)(h1:o.op=.load t x)(h2:o.dst=some dd)(h3:T t=some i)(h4:i.isAgg=false)(h5:σ.get x=.pt d a j)
  (h6:av σ.bl d=some ⟨.arr,sz,rows⟩) (h7:rows[a]? =some r) (h8:r[j]? =some (.ow s nrows)) (h9:av σ.bl dd=none)
  (h:∀ v,bN T X all l K {σ with sl:=bT σ.sl dd (.own dd),bl:=(dd,⟨.arr,s,nrows⟩)::cg σ.bl d ⟨.arr,sz,rows.set a (bT r j (.raw v))⟩,hd:=(dd,v)::σ.hd}):bN T X all (o::l) K σ:=by
 simp only[bN,hg]
 exact .inr (.inr (.inl ⟨t,x,i,dd,d,a,j,sz,rows,r,s,nrows,h1,h2,h3,h4,h5,h6,h7,h8,h9,h⟩))
theorem si {t:TypeId}{x y:Operand}{t' e:TypeId}{fI lX:Nat}{z0:List PV}{rows:List (List PV)}(hg:o.guard=none)(h1:o.op=.binOp .eql t x y t')(h2:T t=some ⟨.slice e,fI,lX,z0⟩)(h3:σ.get y=.zc)(h4:rowsOf σ.bl (σ.get x)=some rows)
  (h:∀ b:Bool,(b=true->rows=[])->bN T X all l K (σ.put o.dst (.bool b))):bN T X all (o::l) K σ:=by
 simp only[bN,hg]
 exact .inr (.inr (.inr (.inl ⟨.eql,t,x,y,t',e,fI,lX,z0,rows,h1,h2,h3,h4,.inl ⟨rfl,h⟩⟩)))
theorem N5 {D d i j s sz:Nat}{nrows rows:List (List PV)}{v:Value}{r:List PV}(h1:av σ.bl D=some ⟨.arr,s,nrows⟩)(h2:hY σ.hd D=some v)(h3:av (σ.drop D).bl d=some ⟨.arr,sz,rows⟩)(h4:rows[i]? =some r)(h5:r[j]? =some (.raw v))(h6:D≠d):
  eS σ [.back D d i j]=some {σ.drop D with bl:=cg (σ.drop D).bl d ⟨.arr,sz,rows.set i (bT r j (.ow s nrows))⟩}:=by
 simp only[eS,iH,h1,h2,h3,h4]
 rw[if_pos ⟨h5,h6⟩]
theorem ux (h:K σ):bN T X all [] K σ:=h
theorem HY {K K':St->Prop}(hk:∀ σ,K σ->K' σ)(h:nS T X o K σ):nS T X o K' σ:=by
 unfold nS at h ⊢
 split
 ·rename_i g args d hc hd
  rw[hc,hd] at h
  obtain⟨r,h1,h2,h3⟩:=h
  exact⟨r,h1,h2,h3.imp (λh=>⟨h.1,hk _ h.2⟩) (hk _)⟩
 rename_i jL
 split at h
 ·rename_i g args d hc hd;exact absurd hd (jL g args d hc)
 split at h
 ·exact hk _ h
 exact h.elim
theorem rA {K K':St->Prop}(hk:∀ σ,K σ->K' σ)(h:rh T X o K σ):rh T X o K' σ:=by
 rcases h with h | ⟨g,args,eR,tq,r,cy,h1,h2,h3,h4,h5,h6,h7⟩ | ⟨t,x,i,dd,d,a,j,sz,rows,r,s,nrows,h1,h2,h3,h4,h5,h6,h7,h8,h9,VQ⟩ | ⟨op,t,x,y,t',e,fI,lX,z0,rows,h1,h2,h3,h4,h5⟩ | ⟨g,args,eR,r,d,d0,h1,h2,h3,h4,h5,h6,h7⟩ | ⟨tw,h⟩ | ⟨aR,h1,h2⟩ | ⟨g,d,rest,n,row,cs,aR,ki,cx,r,id,h1,h2,h3,h4,h5,h6,h7,h8,h9⟩ | ⟨t,e,i,ie,len,ps,d,rows,h1,h2,h3,h4,h5,h6,h7,h8⟩
 ·exact .inl (HY hk h)
 ·exact .inr (.inl ⟨g,args,eR,tq,r,cy,h1,h2,h3,h4,h5,h6,hk _ h7⟩)
 ·exact .inr (.inr (.inl ⟨t,x,i,dd,d,a,j,sz,rows,r,s,nrows,h1,h2,h3,h4,h5,h6,h7,h8,h9,λv=>hk _ (VQ v)⟩))
 ·exact .inr (.inr (.inr (.inl ⟨op,t,x,y,t',e,fI,lX,z0,rows,h1,h2,h3,h4,h5.imp (λh=>⟨h.1,λb hb=>hk _ (h.2 b hb)⟩) (λh=>⟨h.1,λb hb=>hk _ (h.2 b hb)⟩)⟩)))
 ·exact .inr (.inr (.inr (.inr (.inl ⟨g,args,eR,r,d,d0,h1,h2,h3,h4,h5,h6,hk _ h7⟩))))
 ·exact .inr (.inr (.inr (.inr (.inr (.inl ⟨tw,HY (λaR ⟨bo,h1,h2⟩=>⟨bo,h1,hk _ h2⟩) h⟩)))))
 ·exact .inr (.inr (.inr (.inr (.inr (.inr (.inl ⟨aR,h1,hk _ h2⟩))))))
 ·exact .inr (.inr (.inr (.inr (.inr (.inr (.inr (.inl ⟨g,d,rest,n,row,cs,aR,ki,cx,r,id,h1,h2,h3,h4,h5,h6,h7,h8,hk _ h9⟩)))))))
 exact .inr (.inr (.inr (.inr (.inr (.inr (.inr (.inr ⟨t,e,i,ie,len,ps,d,rows,h1,h2,h3,h4,h5,h6,h7,hk _ h8⟩)))))))
theorem KC {K K':St->Prop}(hk:∀ σ,K σ->K' σ)(h:JY T X o K σ):JY T X o K' σ:=by
 rcases h with h | ⟨hp,aR,h1,h2⟩ | ⟨t,e,i,ie,len,ps,d,rows,h1,h2,h3,h4,h5,h6,h7,h8⟩
 case inr.inl=>exact .inr (.inl ⟨hp,aR,h1,hk _ h2⟩)
 case inr.inr=>exact .inr (.inr ⟨t,e,i,ie,len,ps,d,rows,h1,h2,h3,h4,h5,h6,h7,hk _ h8⟩)
 refine .inl ?_
 unfold F5 at h ⊢
 split
 ·rename_i g args d hc hd
  rw[hc,hd] at h
  obtain⟨r,h1,h2,h3⟩:=h
  exact⟨r,h1,h2,hk _ h3⟩
 rename_i jL
 split at h
 ·rename_i g args d hc hd;exact absurd hd (jL g args d hc)
 split at h
 ·exact hk _ h
 exact h.elim
theorem sj {K K':St->Prop}(hk:∀ σ,K σ->K' σ):∀(l:List Oper) (σ:St),bN T X all l K σ->bN T X all l K' σ
 | [],σ,h=>hk σ h
 | o::l,σ,h=>by
  have ih:=sj hk l
  simp only[bN] at h ⊢
  split
  ·rename_i hg;rw[hg] at h;exact rA ih h
  rename_i j want hg
  simp only[hg] at h
  split
  ·rename_i t ht
   simp only[ht] at h
   split
   ·rename_i b hb
    rw[hb] at h
    exact⟨λh1=>rA ih (h.1 h1),λh1=>ih _ (h.2 h1)⟩
   ·rename_i hb
    rw[hb] at h
    exact ih _ h
   rename_i h1 h2
   split at h
   ·rename_i b hb;exact absurd hb (h1 b)
   ·rename_i hb;exact absurd hb h2
   exact h
  rename_i ht;simp only[ht] at h
theorem HZ {K K':St->Prop}(hk:∀ σ,K σ->K' σ):∀(l:List Oper) (σ:St),en T X all l K σ->en T X all l K' σ
 | [],σ,h=>hk σ h
 | o::l,σ,h=>by
  have ih:=HZ hk l
  simp only[en] at h ⊢
  split
  ·rename_i hg;rw[hg] at h;exact KC ih h
  rename_i j want hg
  simp only[hg] at h
  split
  ·rename_i t ht
   simp only[ht] at h
   split
   ·rename_i b hb
    rw[hb] at h
    exact⟨λh1=>KC ih (h.1 h1),λh1=>ih _ (h.2 h1)⟩
   ·rename_i hb
    rw[hb] at h
    exact ih _ h
   rename_i h1 h2
   split at h
   ·rename_i b hb;exact absurd hb (h1 b)
   ·rename_i hb;exact absurd hb h2
   exact h
  rename_i ht;simp only[ht] at h
theorem wL {ops:Array Oper}{L:List Bool}{F G:Nat->Oper->Prop}(h:∀ i o,F i o->G i o):∀ l:List Nat,iq ops L F l->iq ops L G l
 | [],_=>trivial
 | i::l,hF=>by
  simp only[iq] at hF ⊢
  split
  ·rename_i o ho
   simp only[ho] at hF
   exact⟨h i o hF.1,wL h l hF.2⟩
  rename_i ho
  simp only[ho] at hF
  exact wL h l hF
theorem KD {ops:Array Oper}{K K':St->Prop}(hk:∀ σ,K σ->K' σ):∀(n:Nat) (L:List Bool) (σ:St),mY T X ops K n L σ->mY T X ops K' n L σ
 | 0,L,σ,h=>by obtain⟨tw,aR,h1,h2⟩:=h;exact⟨tw,aR,h1,hk _ h2⟩
 | n+1,L,σ,h=>by
  obtain⟨tw,aR,h1,h2⟩:=h
  exact⟨tw,aR,h1,wL (λi o ho=>sj (λbo=>KD hk n _ bo) _ _ ho) _ h2⟩
theorem Kb {c:Code}:∀{Q Q':AE->St->Prop} {σ:St},(∀ e σ,Q e σ->Q' e σ)->fO T X c Q σ->fO T X c Q' σ:=by
 induction c with
 | skip=>intro Q Q' σ hq h;exact hq _ _ h
 | region id ops dr=>
  intro Q Q' σ hq h
  cases dr
  ·obtain⟨tw,aR,h1,h2⟩:=h
   exact⟨tw,aR,h1,sj (λbo h3=>(by obtain⟨qt,mZ,h4,h5⟩:=h3;exact⟨qt,mZ,h4,hq .normal _ h5⟩)) _ _ h2⟩
  obtain⟨tw,aR,h1,⟨h2,h3⟩ | ⟨h2,h3⟩⟩:=h
  ·exact⟨tw,aR,h1,.inl ⟨h2,HZ (hq .normal) _ _ h3⟩⟩
  exact⟨tw,aR,h1,.inr ⟨h2,KD (hq .normal) _ _ _ h3⟩⟩
 | seq x y ihx ihy=>
  intro Q Q' σ hq h
  refine ihx ?_ h
  intro e aR h1
  cases e with
  | normal=>exact ihy hq h1
  | exit id=>exact hq _ _ h1
  | ret=>exact hq _ _ h1
 | cond c x y ihx ihy=>
  intro Q Q' σ hq h
  simp only[fO] at h ⊢
  split
  ·rename_i t ht
   rw[ht] at h
   exact⟨λh1=>ihx hq (h.1 h1),λh1=>ihy hq (h.2 h1)⟩
  rename_i jL
  split at h
  ·rename_i t ht;exact absurd ht (jL t)
  exact h
 | block id b ih=>
  intro Q Q' σ hq h
  refine ih ?_ h
  intro e aR h1
  cases e with
  | normal=>exact hq _ _ h1
  | exit Aa=>exact⟨λh2=>hq _ _ (h1.1 h2),λh2=>hq _ _ (h1.2 h2)⟩
  | ret=>exact hq _ _ h1
 | loop b ih=>
  intro Q Q' σ hq h
  rcases h with ⟨tw,kJ,ks,ds,I,n,h1,h2,h3⟩ | ⟨n,h⟩
  case inr=>
   refine .inr ⟨n,?_⟩
   induction n generalizing σ with
   | zero=>exact h
   | succ n ihn=>
    refine ih ?_ h
    intro e aR h1
    cases e with
    | normal=>obtain⟨tw,bo,ks,ds,h2,h3⟩:=h1;exact⟨tw,bo,ks,ds,h2,ihn h3⟩
    | exit id=>exact hq _ _ h1
    | ret=>exact hq _ _ h1
  refine .inl ⟨tw,kJ,ks,ds,I,n,h1,h2,λaR m hI=>ih ?_ (h3 aR m hI)⟩
  intro e bo h4
  cases e with
  | normal=>exact h4
  | exit id=>exact hq _ _ h4
  | ret=>exact hq _ _ h4
 | exit id=>intro Q Q' σ hq h;exact hq _ _ h
 | ret=>intro Q Q' σ hq h;exact hq _ _ h
 | _=>intro Q Q' σ hq h;exact h.elim
theorem Ki {id:Nat}{ops:Array Oper}(h:bN T X ops.toList ops.toList (Q .normal) σ):fO T X (.region id ops false) Q σ:=⟨[],σ,rfl,sj (λbo h3=>⟨[],bo,rfl,h3⟩) _ _ h⟩
theorem UC {id:Nat}{ops:Array Oper}(h:bN T X ops.toList ops.toList (λaR=>∃ qt bo,eS aR qt=some bo/\Q .normal bo) σ):fO T X (.region id ops false) Q σ:=⟨[],σ,rfl,h⟩
theorem B2 {id:Nat}{ops:Array Oper}(tw:List Tw)(ht:eS σ tw=some aA)(h:bN T X ops.toList ops.toList (Q .normal) aA):fO T X (.region id ops false) Q σ:=⟨tw,aA,ht,sj (λbo h3=>⟨[],bo,rfl,h3⟩) _ _ h⟩
theorem cz {id:Nat}{ops:Array Oper}(rk:List Nat)(hd:ud rk ops=true)(h:en T X ops.toList ops.toList (Q .normal) σ):fO T X (.region id ops true) Q σ:=⟨[],σ,rfl,.inl ⟨⟨rk,hd⟩,h⟩⟩
theorem UD {c:Operand}{x y:Code}{t:Bool}(hc:σ.get c=.bool t)(h1:t=true->fO T X x Q σ)(h0:t=false->fO T X y Q σ):fO T X (.cond c x y) Q σ:=by
 simp only[fO,hc];exact⟨h1,h0⟩
theorem kT (h:Q .ret σ):fO T X .ret Q σ:=h
theorem aI {id:Nat}(h:Q (.exit id) σ):fO T X (.exit id) Q σ:=h
theorem af {id:Nat}{b:Code}(h:fO T X b (λe aA=>match e with | .exit Aa=>(Aa=id->Q .normal aA)/\(Aa≠id->Q (.exit Aa) aA) | e=>Q e aA) σ):fO T X (.block id b) Q σ:=h
theorem Uw {fn:Func}{c:Code}{args:List PV}{r:PV}(hb:fn.body=some c)
  (h:fO T X c (λe σ=>match e with
  | .exit _=>False
  | _=>∃ vs,km T σ fn.results.toList=some vs/\r=lB vs) (Jy fn args)):J0 T X fn args r:=by
 unfold J0;rw[hb];exact h
theorem lP {fn:Func}{c:Code}{args az:List PV}{r:PV}(hb:fn.body=some c)(hfr:cV [] (cJ true aM args).2=true)
  (h:∀ hv,fO T X c (λe σ=>match e with
  | .exit _=>False
  | _=>mf σ hv (cJ true aM args).2/\Df σ aM args=some az/\∃ us,Dg T σ fn.results.toList=some us/\r=lB us) (BQ fn args hv)):Eh T X fn args az r:=by
 unfold Eh;rw[hb];exact⟨hfr,h⟩
end
end Go.Av
namespace Go.Av
open Go Go.Proofs
set_option maxRecDepth 100000
def tl :List (Nat × TI):=[
 (2,⟨.int .i64,1,8,[.int .i64 0]⟩),
 (3,⟨.int .i64,1,8,[.int .i64 0]⟩),
 (4,⟨.bool,1,1,[.bool false]⟩),
 (5,⟨.int .u8,1,1,[.int .u8 0]⟩),
 (6,⟨.int .u8,1,1,[.int .u8 0]⟩),
 (7,⟨.struct [(0,1),(1,1),(2,1),(3,1)] false [true,true,false,true],4,24,[.int .i64 0,.int .i64 0,.bool false,.int .u8 0]⟩),
 (8,⟨.struct [(0,1),(1,1),(2,1),(3,1)] false [true,true,false,true],4,24,[.int .i64 0,.int .i64 0,.bool false,.int .u8 0]⟩),
 (9,⟨.str,1,16,[.str aaM]⟩),
 (10,⟨.str,1,16,[.str aaM]⟩),
 (11,⟨.str,1,16,[.str aaM]⟩),
 (12,⟨.int .u64,1,8,[.int .u64 0]⟩),
 (13,⟨.struct [(0,1),(1,1)] false [false,true],2,24,[.str aaM,.int .u64 0]⟩),
 (14,⟨.struct [(0,1),(1,1)] false [false,true],2,24,[.str aaM,.int .u64 0]⟩),
 (15,⟨.other,1,8,[.aa]⟩),
 (16,⟨.other,1,8,[.aa]⟩),
 (17,⟨.other,1,8,[.aa]⟩),
 (21,⟨.int .i32,1,4,[.int .i32 0]⟩),
 (22,⟨.slice 9,1,24,[.zc]⟩),
 (24,⟨.slice 176,1,24,[.zc]⟩),
 (25,⟨.struct [(0,1),(1,1)] false [true,true],2,48,[.zc,.zc]⟩),
 (26,⟨.struct [(0,1),(1,1)] false [true,true],2,48,[.zc,.zc]⟩),
 (27,⟨.slice 127,1,24,[.zc]⟩),
 (28,⟨.struct [(0,2),(2,1),(3,1),(4,1),(5,1),(6,1),(7,1)] false [false,true,true,true,true,true,true],8,112,[.zc,.zc,.int .i64 0,.zc,.int .i64 0,.int .i64 0,.int .i64 0,.int .i64 0]⟩),
 (29,⟨.struct [(0,2),(2,1),(3,1),(4,1),(5,1),(6,1),(7,1)] false [false,true,true,true,true,true,true],8,112,[.zc,.zc,.int .i64 0,.zc,.int .i64 0,.int .i64 0,.int .i64 0,.int .i64 0]⟩),
 (30,⟨.slice 3,1,24,[.zc]⟩),
 (31,⟨.struct [(0,8),(8,1)] false [false,true],9,136,[.zc,.zc,.int .i64 0,.zc,.int .i64 0,.int .i64 0,.int .i64 0,.int .i64 0,.zc]⟩),
 (32,⟨.struct [(0,8),(8,1)] false [false,true],9,136,[.zc,.zc,.int .i64 0,.zc,.int .i64 0,.int .i64 0,.int .i64 0,.int .i64 0,.zc]⟩),
 (33,⟨.slice 78,1,24,[.zc]⟩),
 (34,⟨.struct [(0,9),(9,1)] false [false,true],10,160,[.zc,.zc,.int .i64 0,.zc,.int .i64 0,.int .i64 0,.int .i64 0,.int .i64 0,.zc,.zc]⟩),
 (35,⟨.struct [(0,9),(9,1)] false [false,true],10,160,[.zc,.zc,.int .i64 0,.zc,.int .i64 0,.int .i64 0,.int .i64 0,.int .i64 0,.zc,.zc]⟩),
 (54,⟨.slice 117,1,24,[.zc]⟩),
 (55,⟨.struct [(0,1),(1,1),(2,1),(3,1),(4,1)] false [true,false,false,true,true],5,72,[.int .i64 0,.str aaM,.str aaM,.int .i64 0,.zc]⟩),
 (56,⟨.struct [(0,1),(1,1),(2,1),(3,1),(4,1)] false [true,false,false,true,true],5,72,[.int .i64 0,.str aaM,.str aaM,.int .i64 0,.zc]⟩),
 (59,⟨.slice 56,1,24,[.zc]⟩),
 (60,⟨.struct [(0,1)] false [true],1,24,[.zc]⟩),
 (61,⟨.struct [(0,1)] false [true],1,24,[.zc]⟩),
 (65,⟨.struct [(0,1),(1,1),(2,1),(3,1),(4,1),(5,1),(6,1),(7,1)] false [true,false,false,false,true,true,true,false],8,112,[.int .i64 0,.str aaM,.str aaM,.str aaM,.int .i64 0,.zc,.int .i64 0,.str aaM]⟩),
 (66,⟨.struct [(0,1),(1,1),(2,1),(3,1),(4,1),(5,1),(6,1),(7,1)] false [true,false,false,false,true,true,true,false],8,112,[.int .i64 0,.str aaM,.str aaM,.str aaM,.int .i64 0,.zc,.int .i64 0,.str aaM]⟩),
 (70,⟨.struct [(0,1),(1,1),(2,1),(3,1)] false [true,false,true,true],4,72,[.int .i64 0,.str aaM,.zc,.zc]⟩),
 (71,⟨.struct [(0,1),(1,1),(2,1),(3,1)] false [true,false,true,true],4,72,[.int .i64 0,.str aaM,.zc,.zc]⟩),
 (72,⟨.slice 4,1,24,[.zc]⟩),
 (73,⟨.struct [(0,1),(1,1),(2,1),(3,1)] false [true,false,true,true],4,72,[.int .i64 0,.str aaM,.zc,.zc]⟩),
 (74,⟨.struct [(0,1),(1,1),(2,1),(3,1)] false [true,false,true,true],4,72,[.int .i64 0,.str aaM,.zc,.zc]⟩),
 (75,⟨.struct [(0,1),(1,1),(2,1),(3,1),(4,1)] false [true,false,false,true,true],5,72,[.int .i64 0,.str aaM,.str aaM,.int .i64 0,.zc]⟩),
 (76,⟨.struct [(0,1),(1,1),(2,1),(3,1),(4,1)] false [true,false,false,true,true],5,72,[.int .i64 0,.str aaM,.str aaM,.int .i64 0,.zc]⟩),
 (77,⟨.struct [(0,1),(1,1),(2,1),(3,1),(4,4),(8,4),(12,5)] false [true,false,false,false,false,false,false],17,264,[.int .i64 0,.str aaM,.str aaM,.bool false,.int .i64 0,.str aaM,.zc,.zc,.int .i64 0,.str aaM,.zc,.zc,.int .i64 0,.str aaM,.str aaM,.int .i64 0,.zc]⟩),
 (78,⟨.struct [(0,1),(1,1),(2,1),(3,1),(4,4),(8,4),(12,5)] false [true,false,false,false,false,false,false],17,264,[.int .i64 0,.str aaM,.str aaM,.bool false,.int .i64 0,.str aaM,.zc,.zc,.int .i64 0,.str aaM,.zc,.zc,.int .i64 0,.str aaM,.str aaM,.int .i64 0,.zc]⟩),
 (79,⟨.slice 5,1,24,[.zc]⟩),
 (88,⟨.other,1,8,[.aa]⟩),
 (90,⟨.slice 131,1,24,[.zc]⟩),
 (91,⟨.struct [(0,1),(1,1),(2,1),(3,1),(4,1)] false [true,true,true,true,true],5,56,[.int .i64 0,.int .i64 0,.int .i64 0,.int .i64 0,.zc]⟩),
 (92,⟨.struct [(0,1),(1,1),(2,1),(3,1),(4,1)] false [true,true,true,true,true],5,56,[.int .i64 0,.int .i64 0,.int .i64 0,.int .i64 0,.zc]⟩),
 (96,⟨.slice 134,1,24,[.zc]⟩),
 (99,⟨.slice 104,1,24,[.zc]⟩),
 (103,⟨.struct [(0,1),(1,1),(2,1),(3,1),(4,1),(5,1),(6,1),(7,1)] false [true,true,true,true,true,false,false,false],8,88,[.int .i64 0,.int .i64 0,.int .i64 0,.int .i64 0,.int .i64 0,.str aaM,.str aaM,.str aaM]⟩),
 (104,⟨.struct [(0,1),(1,1),(2,1),(3,1),(4,1),(5,1),(6,1),(7,1)] true [true,true,true,true,true,false,false,false],8,88,[.int .i64 0,.int .i64 0,.int .i64 0,.int .i64 0,.int .i64 0,.str aaM,.str aaM,.str aaM]⟩),
 (116,⟨.struct [(0,1),(1,1),(2,1)] false [true,true,false],3,32,[.int .i64 0,.int .i64 0,.str aaM]⟩),
 (117,⟨.struct [(0,1),(1,1),(2,1)] true [true,true,false],3,32,[.int .i64 0,.int .i64 0,.str aaM]⟩),
 (122,⟨.struct [(0,1),(1,1),(2,1)] false [true,true,false],3,32,[.int .i64 0,.int .i64 0,.str aaM]⟩),
 (123,⟨.struct [(0,1),(1,1),(2,1)] true [true,true,false],3,32,[.int .i64 0,.int .i64 0,.str aaM]⟩),
 (126,⟨.struct [(0,1),(1,1),(2,1),(3,1)] false [true,true,true,true],4,48,[.int .i64 0,.int .i64 0,.int .i64 0,.zc]⟩),
 (127,⟨.struct [(0,1),(1,1),(2,1),(3,1)] false [true,true,true,true],4,48,[.int .i64 0,.int .i64 0,.int .i64 0,.zc]⟩),
 (130,⟨.struct [(0,1),(1,1)] false [true,true],2,16,[.int .i64 0,.int .i64 0]⟩),
 (131,⟨.struct [(0,1),(1,1)] true [true,true],2,16,[.int .i64 0,.int .i64 0]⟩),
 (133,⟨.struct [(0,1),(1,8)] false [true,false],9,96,[.int .i64 0,.int .i64 0,.int .i64 0,.int .i64 0,.int .i64 0,.int .i64 0,.str aaM,.str aaM,.str aaM]⟩),
 (134,⟨.struct [(0,1),(1,8)] true [true,false],9,96,[.int .i64 0,.int .i64 0,.int .i64 0,.int .i64 0,.int .i64 0,.int .i64 0,.str aaM,.str aaM,.str aaM]⟩),
 (148,⟨.other,1,8,[.aa]⟩),
 (175,⟨.struct [(0,1),(1,1)] false [true,false],2,24,[.int .i64 0,.str aaM]⟩),
 (176,⟨.struct [(0,1),(1,1)] true [true,false],2,24,[.int .i64 0,.str aaM]⟩),
 (198,⟨.int .u64,1,8,[.int .u64 0]⟩),
 (202,⟨.other,1,8,[.aa]⟩),
 (234,⟨.int .u32,1,4,[.int .u32 0]⟩),
 (238,⟨.slice 123,1,24,[.zc]⟩),
 (244,⟨.int .u64,1,8,[.int .u64 0]⟩),
 (247,⟨.other,1,8,[.aa]⟩),
 (260,⟨.other,1,8,[.aa]⟩),
 (262,⟨.other,1,8,[.aa]⟩),
 (280,⟨.int .i64,1,8,[.int .i64 0]⟩),
 (303,⟨.other,1,8,[.aa]⟩),
 (304,⟨.struct [(0,1),(1,1),(2,1)] false [false,true,false],3,32,[.str aaM,.int .i64 0,.bool false]⟩),
 (305,⟨.struct [(0,1),(1,1),(2,1)] false [false,true,false],3,32,[.str aaM,.int .i64 0,.bool false]⟩),
 (308,⟨.int .u64,1,8,[.int .u64 0]⟩),
 (312,⟨.other,1,8,[.aa]⟩),
 (315,⟨.other,1,8,[.aa]⟩),
 (319,⟨.slice 312,1,24,[.zc]⟩),
 (320,⟨.other,1,8,[.aa]⟩),
 (321,⟨.slice 320,1,24,[.zc]⟩),
 (327,⟨.int .u8,1,1,[.int .u8 0]⟩),
 (328,⟨.int .u8,1,1,[.int .u8 0]⟩),
 (330,⟨.int .i32,1,4,[.int .i32 0]⟩),
 (331,⟨.int .i32,1,4,[.int .i32 0]⟩)]
def T :dA:=Jx tl
theorem nQ :fa Tryz.prog T:=Ms tl (by kernel_rfl)
abbrev al:=Real Tryz.prog
abbrev rY:=jA Tryz.prog
theorem aY {g:FuncId}{fn:Func}{c:Code}{args:List PV}{r:PV}(hf:Tryz.prog.funcs[g]? =some fn)(h:fO T ⟨Real Tryz.prog,fo Tryz.prog,jh Tryz.prog,jA Tryz.prog⟩ c (λe σ=>match e with
 | .exit _=>False
 | _=>∃ vs,km T σ fn.results.toList=some vs/\r=lB vs) (Jy fn args))(hn:(fn.name=="runtime.NumGoroutine")=false:=by kernel_rfl)(hb:fn.body=some c:=by exact rfl):Real Tryz.prog g args r:=real nQ hf hn (Uw hb h)
end Go.Av
namespace Go.Av
open Go Go.RowKit
set_option linter.unusedVariables false
set_option linter.unusedSimpArgs false
theorem Ge {x:Int}(h1: -9223372036854775808<=x)(h2:x<=9223372036854775807):IntKind.i64.wrap x=x:=by
 unfold IntKind.wrap
 have e1:(2:Int) ^ IntKind.i64.bits=18446744073709551616:=by decide
 have e2:(2:Int) ^ (IntKind.i64.bits - 1)=9223372036854775808:=by decide
 have e3:IntKind.i64.signed=true:=rfl
 simp only[e1,e2,e3,ab5]
 split
 ·rename_i h;simp only[ge_iff_le,decide_eq_true_eq] at h;omega
 rename_i h;simp only[ge_iff_le,decide_eq_true_eq] at h;omega
theorem ML (bs:ByteArray):∀(n i:Nat) (r:List UInt8),bs.size - i=n->acy.loop bs i r=r.reverse++bs.data.toList.drop i
 | 0,i,r,h=>by
  rw[acy.loop,if_neg (by omega),List.drop_of_length_le (by show bs.data.toList.length<=i;simp only[Array.length_toList];show bs.size<=i;omega),abm]
 | n+1,i,r,h=>by
  have hlt:i < bs.data.size:=by show i < bs.size;omega
  rw[acy.loop,if_pos (by omega),ML bs n (i+1) _ (by omega)]
  have hd:bs.data.toList.drop i=bs.data[i]::bs.data.toList.drop (i+1):=by
   rw[List.drop_eq_getElem_cons (by simpa using hlt)];simp
  rw[hd,List.reverse_cons,List.append_assoc]
  have:bs.get! i=bs.data[i]:=by
   unfold ByteArray.get!
   exact getElem!_pos bs.data i hlt
  rw[this];rfl
theorem Gm (s:ByteArray):s.toList=s.data.toList:=by
 unfold acy
 rw[ML s _ 0 [] rfl]
 simp
theorem VR {s:ByteArray}(h:s.toList=[]):s.size=0:=by
 rw[Gm] at h
 show s.data.size=0
 rw[<- Array.length_toList,h]
 rfl
theorem Ke {a b:ByteArray}(h:a.toList=b.toList):a=b:=by
 rw[Gm,Gm] at h
 obtain⟨⟨a⟩⟩:=a
 obtain⟨⟨b⟩⟩:=b
 simp only at h
 rw[h]
def fill {α:Type}(f:α->List PV)(z:List PV)(xs:List α)(i:Nat):List (List PV):=(xs.take i).map f++aa0 (xs.length - i) z
theorem Qg {α:Type}(f:α->List PV)(z:List PV)(xs:List α):fill f z xs 0=aa0 xs.length z:=by simp[fill]
theorem Su {α:Type}(f:α->List PV)(z:List PV)(xs:List α){i:Nat}(h:xs.length<=i):fill f z xs i=xs.map f:=by
 simp[fill,List.take_of_length_le h,Nat.sub_eq_zero_of_le h]
theorem Sv {α:Type}(f:α->List PV)(z:List PV)(xs:List α){i:Nat}(h:i<=xs.length):(fill f z xs i).length=xs.length:=by simp[fill];omega
theorem UF {α:Type}(f:α->List PV)(z:List PV)(xs:List α){i:Nat}(h:i < xs.length):(fill f z xs i)[i]? =some z:=by
 unfold fill
 rw[List.getElem?_append_right (by simp;omega)]
 simp[List.getElem?_replicate]
 omega
theorem Sw {α:Type}(f:α->List PV)(z:List PV)(xs:List α){i:Nat}{x:α}(h:xs[i]? =some x):(fill f z xs i).set i (f x)=fill f z xs (i+1):=by
 have hlt:i < xs.length:=(aaZ.1 h).1
 have hx:xs[i]=x:=(aaZ.1 h).2
 unfold fill
 rw[List.set_append_right _ _ (by simp;omega),aa6,h]
 have:xs.length - i=(xs.length - (i+1))+1:=by omega
 rw[this,List.replicate_succ]
 have h0:i - (List.map f (List.take i xs)).length=0:=by simp;omega
 rw[h0]
 simp
section
variable {T : dA} {σ : St} {o : Oper}
theorem jO {t e:TypeId}{x ix:Operand}{a b:Nat}{c:List PV}{ie:TI}{sz:Nat}{rows:List (List PV)}{k:IntKind}{n:Int}{r:List PV}(ho:o.op=.indexAddr t x ix)(hT:T t=some ⟨.slice e,a,b,c⟩)(gQ:T e=some ie)
  (hx:σ.get x=.sl sz rows) (hix:σ.get ix=.int k n) (hn:0<=n) (hs:nq sz ie.size=true) (hr:rows[n.toNat]? =some r):step T σ o=some (σ.put o.dst (.rd r)):=by
 simp only[step,ho,jB,hT,gQ,hx,hix,hs,hr,hn,decide_true,ab5]
theorem kO {t e:TypeId}{x ix:Operand}{a b:Nat}{c:List PV}{ie:TI}{d bsz:Nat}{rows:List (List PV)}{k:IntKind}{n:Int}(ho:o.op=.indexAddr t x ix)(hT:T t=some ⟨.slice e,a,b,c⟩)(gQ:T e=some ie)
  (hx:σ.get x=.own d) (hix:σ.get ix=.int k n) (hb:av σ.bl d=some ⟨.arr,bsz,rows⟩) (hn:0<=n) (hl:n < rows.length) (hs:nq bsz ie.size=true):step T σ o=some (σ.put o.dst (.pt d n.toNat 0)):=by
 simp only[step,ho,jB,hT,gQ,hx,hix,hb,hn,hl,hs,decide_true,ab5]
theorem Qh {X:Spec}{all l:List Oper}{K:St->Prop}{g:FuncId}{args az:List PV}{d:Nat}{r:PV}(hg:o.guard=none)(hd:o.dst=some d)(hc:bZ σ o=some (g,args))(hv:fD σ.bl args=az)(hX:X g az r)
 (hf:fresh r\/iT args=true) (hfree:cV σ.bl (gH true d r).2=true) (h:bN T X all l K (σ.bind d r)):bN T X all (o::l) K σ:=Ss r hg hd hc (hv ▸ hX) hf hfree h
theorem aH {X:Spec}{all l:List Oper}{K:St->Prop}{g:FuncId}{args az:List PV}{d:Nat}{r:PV}(hX:X g az r)(hf:fresh r\/iT args=true)(h:bN T X all l K (σ.bind d r))(hg:o.guard=none:=by exact rfl)(hd:o.dst=some d:=by exact rfl)
 (hc:bZ σ o=some (g,args):=by cbv) (hv:fD σ.bl args=az:=by cbv) (hfree:cV σ.bl (gH true d r).2=true:=by cbv):bN T X all (o::l) K σ:=Qh hg hd hc hv hX hf hfree h
theorem N4 {X:Spec}{all l:List Oper}{K:St->Prop}{g:FuncId}{args az:List PV}{d:Nat}{r:PV}(hg:o.guard=none)(hd:o.dst=some d)(hc:bZ σ o=some (g,args))(hv:fD σ.bl args=az)(hX:X g az r)
 (hf:fresh r\/iT args=true) (h:bN T X all l K (σ.put (some d) (froze r))):bN T X all (o::l) K σ:=Qe r hg hd hc (hv ▸ hX) hf h
theorem N9 {X:Spec}{all l:List Oper}{K:St->Prop}{g:FuncId}{args az:List PV}{d:Nat}{r:PV}(hg:o.guard=none)(hd:o.dst=some d)(hc:bZ σ o=some (g,args))(hv:fD σ.bl args=az)(hX:X g az r)
 (hf:fresh r\/iT args=true) (h:en T X all l K (σ.put (some d) (froze r))):en T X all (o::l) K σ:=Qf r hg hd hc (hv ▸ hX) hf h
theorem ik {t:TypeId}{x v:Operand}{i:TI}{d j0 j sz:Nat}{rows dI:List (List PV)}{cs r:List PV}{aR:St}(ho:o.op=.store t x v)(hd:o.dst=none)(hT:T t=some i)(hx:σ.get x=.pt d j0 j)
  (hlen:nq (cellsOf (σ.get v)).length i.size=true) (jm:∃ s r,av σ.bl d=some ⟨.arr,s,r⟩) (ha:ek σ (cellsOf (σ.get v))=some (cs,aR)) (hb:av aR.bl d=some ⟨.arr,sz,rows⟩) (hr:rows[j0]? =some r) (hle:zT (j+i.size) r.length=true)
  (hrows:dI=rows.set j0 (gR r j cs)):step T σ o=some {aR with bl:=cg aR.bl d ⟨.arr,sz,dI⟩}:=by
 obtain⟨s0,r0,jm⟩:=jm
 subst hrows
 simp only[step,ho,hd,pS,hT,hx,hlen,jm,ha,hb,hr,hle]
theorem Qi {t e:TypeId}{l c:Operand}{a b:Nat}{z:List PV}{ie:TI}{d:Nat}{n:Int}{rows:List (List PV)}(ho:o.op=.makeSlice t l c)(hd:o.dst=some d)(hT:T t=some ⟨.slice e,a,b,z⟩)(gQ:T e=some ie)
  (hl:σ.get l=.int .i64 n) (hc:σ.get c=.int .i64 n) (hn:0<=n) (hmax:n * ie.bytes<=140737488355328) (hby:0 < ie.bytes) (hsz:0 < ie.size) (hfree:av σ.bl d=none) (hrows:rows=aa0 n.toNat ie.zero):
  step T σ o=some {σ with sl:=bT σ.sl d (.own d),bl:=(d,⟨.arr,ie.size,rows⟩)::σ.bl}:=by
 subst hrows
 simp only[step,ho,hd,nu,hT,gQ,hl,hc,hn,hmax,hby,hsz,hfree,decide_true,ab5,abV]
theorem vr {X:Spec}{all l:List Oper}{K:St->Prop}{j:Nat}{t:Tmp}{want:Bool}(hg:o.guard=some (j,want))(hd:ji all j=some t)(hb:bM σ.sl t=.bool want)(h:rh T X o (bN T X all l K) σ):bN T X all (o::l) K σ:=by
 simp only[bN,hg,hd,hb]
 exact⟨λ_=>h,λh1=>by cases want<;>cases h1⟩
theorem qf {X:Spec}{all l:List Oper}{K:St->Prop}{j:Nat}{t:Tmp}{want:Bool}{aA:St}(hg:o.guard=some (j,want))(hd:ji all j=some t)(hb:bM σ.sl t=.bool want)(hc:bZ σ o=none)(hs:step T σ o=some aA)
 (h:bN T X all l K aA):bN T X all (o::l) K σ:=vr hg hd hb (lM hc hs h)
theorem PN {X:Spec}{all l:List Oper}{K:St->Prop}{j:Nat}{t:Tmp}{want:Bool}{g:FuncId}{args az:List PV}{d:Nat}{r:PV}(hg:o.guard=some (j,want))(hdj:ji all j=some t)(hb:bM σ.sl t=.bool want)(hd:o.dst=some d)
  (hc:bZ σ o=some (g,args)) (hv:fD σ.bl args=az) (hX:X g az r) (hf:fresh r\/iT args=true) (hfree:cV σ.bl (gH true d r).2=true) (h:bN T X all l K (σ.bind d r)):bN T X all (o::l) K σ:=by
 refine vr hg hdj hb ?_
 refine .inl ?_
 unfold nS
 rw[hc,hd]
 exact⟨r,hv ▸ hX,hf,.inl ⟨hfree,h⟩⟩
theorem AJ {t e:TypeId}{x:Operand}{lo hi:Option Operand}{a b:Nat}{c:List PV}{ie:TI}{sz:Nat}{rows dI:List (List PV)}{l h:Int}(ho:o.op=.slice t x lo hi none)(hT:T t=some ⟨.slice e,a,b,c⟩)(gQ:T e=some ie)
  (hx:σ.get x=.sl sz rows) (hlo:jr σ 0 lo=some l) (hhi:jr σ rows.length hi=some h) (h0:0<=l) (h1:l<=h) (h2:h<=rows.length) (hs:nq sz ie.size=true) (hr:dI=(rows.drop l.toNat).take (h.toNat - l.toNat)):
  step T σ o=some (σ.put o.dst (.sl sz dI)):=by
 subst hr
 simp only[step,ho,pT,hT,gQ,hx,hlo,hhi,h0,h1,h2,hs,decide_true,ab5,abV]
end
def chain :Int->List Nat->Int
 | n,[]=>n
 | n,k::l=>if n - k < 0 then -1 else chain (n - k) l
theorem Kg :∀(l:List Nat) (n:Int),-1<=n-> -1<=chain n l
 | [],n,h=>h
 | k::l,n,h=>by
  unfold chain
  split
  ·omega
  exact Kg l _ (by omega)
theorem Kf :∀(l:List Nat) (n:Int),-1<=n->chain n l<=n
 | [],n,h=>Int.le_refl _
 | k::l,n,h=>by
  unfold chain
  split
  ·omega
  have:=Kf l (n - k) (by omega)
  omega
theorem jF (n:Int)(k:Nat)(l:List Nat):chain n (k::l)=if n - k < 0 then -1 else chain (n - k) l:=rfl
theorem HB :∀(a b:List Nat) (n:Int),0<=chain n a->chain n (a++b)=chain (chain n a) b
 | [],b,n,h=>rfl
 | k::a,b,n,h=>by
  by_cases h1:n - k < 0
  ·rw [jF,if_pos h1] at h;omega
  rw[jF,if_neg h1] at h
  rw[abt,jF,if_neg h1,jF,if_neg h1]
  exact HB a b _ h
theorem H0 :∀(l:List Nat) (n:Int),0<=chain n l->∀ k∈l,(k:Int)<=n
 | [],n,h,k,hk=>by simp at hk
 | j::l,n,h,k,hk=>by
  unfold chain at h
  split at h
  ·omega
  rename_i h1
  simp only[aa9] at hk
  rcases hk with rfl | hk
  ·omega
  have:=H0 l _ h k hk
  omega
theorem H3 {α β:Type}(f:α->List β)(xs:List α){i:Nat}{x:α}(h:xs[i]? =some x):(xs.take (i+1)).flatMap f=(xs.take i).flatMap f++f x:=by
 rw[aa6,h]
 simp
theorem Ox {α β:Type}(f:α->List β)(xs:List α)(i:Nat):xs.flatMap f=(xs.take i).flatMap f++(xs.drop i).flatMap f:=by
 rw[<- List.flatMap_append,List.take_append_drop]
theorem bC {α:Type}(f:α->List PV){xs:List α}{ra:List (List PV)}(h:ra=xs.map f){i:Nat}{x:α}(hx:xs[i]? =some x):ra[i]? =some (f x):=by
 rw[h];simp[hx]
theorem gT {α:Type}(f g:α->List PV)(h:∀ x,dh (f x)=g x):∀ xs:List α,ar (xs.map f)=xs.map g
 | []=>rfl
 | x::xs=>by
  show dh (f x)::ar (xs.map f)=g x::xs.map g
  rw[h,gT f g h xs]
theorem MM {α:Type}{s:Sh}(f:α->List PV)(p:α->Prop)(h:∀ r,s.Is r->∃ x,r=f x/\p x):∀ rows:List (List PV),(∀ r∈rows,s.Is r)->∃ xs:List α,rows=xs.map f/\∀ x∈xs,p x
 | [],_=>⟨[],rfl,λx hx=>by simp at hx⟩
 | r::rows,hr=>by
  obtain⟨x,rfl,hp⟩:=h r (hr r (by simp))
  obtain⟨xs,rfl,hps⟩:=MM f p h rows λr' nT=>hr r' (by simp[nT])
  exact⟨x::xs,rfl,λy hy=>by
   simp only[aa9] at hy
   rcases hy with rfl | hy
   ·exact hp
   exact hps y hy⟩
end Go.Av

/- What a program's types are: checked by evaluation. -/
import Derived.Test.YtjbokkoiicoahaaGreatDoorAvy
import Derived.ProofKit
namespace Go.Av
open Go Go.RowKit
set_option linter.unusedVariables false
set_option linter.unusedSimpArgs false
def AE.to :AE→Exit
 | .normal=>.normal
 | .exit id=>.exit id
 | .ret=>.ret
section
variable {P : Program} {T : Tys} {X : Spec} {B : Ft} {W0 : World} {I0 : Ft} {σ σ' : St} {a : Act} {w w' : World} {o : Oper} {ops : Array Oper} {Q : Exit → Act → World → Prop}
theorem wp_loop_n {c:Code}(I:Nat→Act→World→Prop){n:Nat}(h₀:I n a w)(round:∀ n a w,I n a w→c.wp P (Exit.then (fun a' w'=>∃ m,m < n∧I m a' w') Q) a w):(Code.loop c).wp P Q a w:=by
 intro b k cs
 have key:∀ n a w,I n a w→∃ e a' w',Q e a' w'∧Arrives P (lone (b.at a (.code c:: .inLoop c::k)) cs w) b k cs e a' w':=by
  intro n
  induction n using Nat.strongRecOn with
  | _ n ih=>
   intro a w hI
   obtain⟨e,a₁,w₁,hq,harr⟩:=round n a w hI b (.inLoop c::k) cs
   cases e with
   | normal=>
    obtain⟨m,hlt,hI₁⟩:=hq
    obtain⟨e₂,a₂,w₂,hq₂,harr₂⟩:=ih m hlt a₁ w₁ hI₁
    exact⟨e₂,a₂,w₂,hq₂,.of_steps (Steps.trans harr (.one step_inLoop)) harr₂⟩
   | exit id=>exact⟨_,a₁,w₁,hq,.pass (x:=.inLoop c) rfl (fun _ _=>.inl (by simp)) harr⟩
   | goto l=>exact⟨_,a₁,w₁,hq,.pass (x:=.inLoop c) rfl (fun _ _=>.inl (by simp)) harr⟩
   | ret=>exact⟨_,a₁,w₁,hq,.pass (x:=.inLoop c) rfl (fun _ _=>.inl (by simp)) harr⟩
   | panic ch=>exact⟨_,a₁,w₁,hq,.pass (x:=.inLoop c) rfl (fun _ _=>.inl (by simp)) harr⟩
   | outgrown=>exact⟨_,a₁,w₁,hq,.pass (x:=.inLoop c) rfl (fun _ _=>.inl (by simp)) harr⟩
 obtain⟨e,a',w',hq,harr⟩:=key _ a w h₀
 exact⟨e,a',w',hq,.of_steps (.one step_loop) harr⟩
theorem awp_sound (hT:TyOk P T)(hX:AllReal P X B W0)(c:Code):∀(Qa:AE→St→Prop) (Q:Exit→Act→World→Prop) (σ:St) (a:Act) (w:World),(∀ e σ a w,SimE B W0 I0 σ a w→Qa e σ→Q e.to a w)→SimE B W0 I0 σ a w→
  awp T X c Qa σ→c.wp P Q a w:=by
 induction c with
 | skip=>intro Qa Q σ a w hQ h ha;exact wp_skip (hQ .normal σ a w h ha)
 | region id ops draw=>
  intro Qa Q σ a w hQ h ha
  cases draw with
  | false=>
   obtain⟨tw,σ',ht,ha⟩:=ha
   exact region_sound hT hX (fun σ a w hs hq=>(by obtain⟨tw2,σ2,h2,h3⟩:=hq;exact hQ .normal σ2 a w (tweak_sound tw2 hs h2) h3)) (tweak_sound tw h ht) ha
  | true=>
   obtain⟨tw,σ',ht,⟨⟨_,hok⟩,ha⟩ | ⟨hok,ha⟩⟩:=ha
   ·exact draw_sound hT hX hok (fun σ a w=>hQ .normal σ a w) (tweak_sound tw h ht) ha
   obtain⟨rk,hok⟩:=hok
   exact drawE_sound hT hX hok (fun σ a w=>hQ .normal σ a w) (tweak_sound tw h ht) ha
 | seq x y ihx ihy=>
  intro Qa Q σ a w hQ h ha
  refine wp_seq (ihx _ _ σ a w (fun e σ' a' w' h' hq=> ?_) h ha)
  cases e with
  | normal=>exact ihy Qa Q σ' a' w' hQ h' hq
  | exit id=>exact hQ (.exit id) _ _ _ h' hq
  | ret=>exact hQ .ret _ _ _ h' hq
 | cond c x y ihx ihy=>
  intro Qa Q σ a w hQ h ha
  simp only[awp] at ha
  split at ha
  ·rename_i t hc
   obtain⟨I,val,fs,hs⟩:=h
   have he:=hs.eval c
   rw[hc] at he
   have he:=rel_bool he
   cases t
   ·exact wp_cond_false he (ihy Qa Q σ a w hQ ⟨I,val,fs,hs⟩ (ha.2 rfl))
   exact wp_cond_true he (ihx Qa Q σ a w hQ ⟨I,val,fs,hs⟩ (ha.1 rfl))
  exact ha.elim
 | block id b ih=>
  intro Qa Q σ a w hQ h ha
  refine wp_block (ih _ _ σ a w (fun e σ' a' w' h' hq=> ?_) h ha)
  cases e with
  | normal=>exact hQ .normal _ _ _ h' hq
  | exit id'=>
   simp only[AE.to,Exit.inBlock]
   by_cases hid:id'=id
   ·rw [if_pos hid];exact hQ .normal _ _ _ h' (hq.1 hid)
   rw[if_neg hid];exact hQ (.exit id') _ _ _ h' (hq.2 hid)
  | ret=>exact hQ .ret _ _ _ h' hq
 | loop b ih=>
  intro Qa Q σ a w hQ h ha
  obtain⟨tw,σ0,ks,ds,I,n,ht,hI,hround⟩:=ha
  refine wp_loop_n (I:=fun n a w=>∃ σ,I σ n∧SimE B W0 I0 σ a w) (n:=n) ⟨_,hI,keep_sound (tweak_sound tw h ht) ks ds⟩ ?_
  intro m a' w' hm
  obtain⟨σ1,hI1,h1⟩:=hm
  refine ih _ _ σ1 a' w' (fun e σ2 a2 w2 h2 hq=> ?_) h1 (hround σ1 m hI1)
  cases e with
  | normal=>
   obtain⟨m',hlt,hI2⟩:=hq
   exact⟨m',hlt,_,hI2,keep_sound h2 ks ds⟩
  | exit id=>exact hQ (.exit id) _ _ _ h2 hq
  | ret=>exact hQ .ret _ _ _ h2 hq
 | exit id=>intro Qa Q σ a w hQ h ha;exact wp_exit (hQ (.exit id) σ a w h ha)
 | ret=>intro Qa Q σ a w hQ h ha;exact wp_ret (hQ .ret σ a w h ha)
 | _=>intro Qa Q σ a w hQ h ha;exact ha.elim
variable {I : Ft} {val : Nat → Value} {fs : Nat → Ft}
def resRun (tmps:Array Value):ResultVar→Sem Value
 | .tmp t=>pure (tmps.getD t undef)
 | .cell a t=>do loadVar t (← asAddr (tmps.getD a undef))
theorem slot_val (h:Sim B W0 I0 I val fs σ a w)(t:Nat):RelS w I val σ.bl (getL σ.sl t) (a.tmps.getD t undef):=by
 have:=h.slots.get t undef
 simpa using this
theorem resVar_rel (hT:TyOk P T)(h:Sim B W0 I0 I val fs σ a w){x:ResultVar}{v:PV}(hv:resVar T σ x=some v):∃ u,(resRun a.tmps x).run P w=.ok u w∧RelS w I val σ.bl v u:=by
 cases x with
 | tmp t=>
  simp only[resVar,Option.some.injEq] at hv
  subst hv
  exact⟨_,rfl,slot_val h t⟩
 | cell ad t=>
  simp only[resVar] at hv
  split at hv
  case h_2=>cases hv
  rename_i i d j hTt hsl
  split at hv
  case h_2=>cases hv
  rename_i sz r hb
  have he:=slot_val h ad
  rw[hsl] at he
  generalize hu:a.tmps.getD ad undef=u at he
  cases he with
  | leaf c v hl h=>cases hl
  | pt d i' j b g hb' hg=>
   rw[hb] at hb'
   cases hb'
   obtain⟨vs,hc,hR⟩:=blk_row (a:=0) (r:=r) (h.blocks d _ hb) rfl hg
   obtain⟨y,hrun,hy⟩:=run_loadVar_rel (P:=P) (hT _ _ hTt) (a:=⟨g,0 * sz+j,none⟩) (vs:=vs.drop j) (fun k u hk=>by
    rw[Addr.add_mid,show 0 * sz+j+k=0 * sz+(j+k) by omega]
    exact hc (j+k) u (by simpa using hk)) (hR.drop j) hv
   refine⟨y,?_,hy⟩
   simp only[resRun,hu,asAddr]
   exact hrun
theorem closeL_rel (hT:TyOk P T):∀(l:List ResultVar) (σ:St),Sim B W0 I0 I val fs σ a w→∀ vs,closeL T σ l=some vs→
  ∃ us F,(l.mapM (resRun a.tmps)).run P w=.ok us w∧us.length=l.length∧RelT w I vs us F∧∀ x,F x→∃ d b,blk σ.bl d=some b∧fs d x
 | [],σ,h,vs,hc=>by
  simp only[closeL,Option.some.injEq] at hc
  subst hc
  exact⟨[],none',rfl,rfl,.nil _,fun x hx=>hx.elim⟩
 | x::l,σ,h,vs,hc=>by
  simp only[closeL] at hc
  split at hc
  case h_2=>cases hc
  rename_i v hv
  split at hc
  case h_2=>cases hc
  rename_i v' σ1 h1
  split at hc
  case h_2=>cases hc
  rename_i l' h2
  simp only[Option.some.injEq] at hc
  subst hc
  obtain⟨u,hrun,hR⟩:=resVar_rel hT h hv
  obtain⟨F,hS,hR1,hF,hsub⟩:=close1_rel h hR h1
  obtain⟨us,G,hruns,hlen,hRT,hG⟩:=closeL_rel hT l σ1 hS l' h2
  refine⟨u::us,fun x=>F x∨G x,?_,by simp[hlen],.cons _ _ _ _ F G _ hR1 hRT (fun _ h=>.inl h) (fun _ h=>.inr h) (fun b hb hg=> ?_),fun y hy=> ?_⟩
  ·rw [List.mapM_cons]
   simp only[Sem.run_bind,hrun,Result.andThen_ok,hruns,Sem.run_pure]
  ·obtain⟨d,q,hq,hn,hf⟩:=hF b hb
   obtain⟨e,q',hq',hf'⟩:=hG b hg
   obtain⟨q2,hq2,_⟩:=hsub e q' hq'
   have hne:d≠e:=by rintro rfl;rw[hn] at hq';cases hq'
   exact h.disj d e _ _ hq hq2 hne b hf hf'
  rcases hy with hy | hy
  ·obtain⟨d,q,hq,_,hf⟩:=hF y hy;exact⟨d,q,hq,hf⟩
  obtain⟨d,q,hq,hf⟩:=hG y hy
  obtain⟨q2,hq2,_⟩:=hsub d q hq
  exact⟨d,q2,hq2,hf⟩
theorem results_run {fn:Func}{tmps:Array Value}{us:List Value}(h:(fn.results.toList.mapM (resRun tmps)).run P w=.ok us w):
  (results fn tmps).run P w=.ok (if h:us.length=1 then us[0] else .tuple us.toArray) w:=by
 have e:(fn.results.mapM (resRun tmps))=List.toArray <$> fn.results.toList.mapM (resRun tmps):=by
  rw[Array.mapM_eq_mapM_toList]
 have h2:(fn.results.mapM (resRun tmps)).run P w=.ok us.toArray w:=by
  rw[e]
  show((fn.results.toList.mapM (resRun tmps)) >>= (fun l=>pure l.toArray)).run P w=_
  rw[Sem.run_bind,h,Result.andThen_ok]
  rfl
 have:results fn tmps=(fn.results.mapM (resRun tmps)) >>= fun vs=>pure (if h:vs.size=1 then vs[0] else .tuple vs):=by
  unfold results
  congr 1
 rw[this,Sem.run_bind,h2,Result.andThen_ok]
 simp only[Sem.run_pure]
 simp
theorem closed_rel {vs:List PV}{us:List Value}{F:Ft}(h:RelT w I vs us F):RelR w I (tupOf vs) (if h:us.length=1 then us[0] else .tuple us.toArray) F:=by
 cases h with
 | nil F=>exact .tup [] [] _ (.nil _)
 | cons c l v vs F G H h t hF hG d=>
  cases t with
  | nil G=>
   simp only[tupOf,List.length_singleton,dite_true,List.getElem_cons_zero]
   refine .one _ _ _ ?_
   cases h with
   | one c v F h=>exact .one _ _ _ (h.mono hF)
   | agg cs vs F h=>exact .agg _ _ _ (h.mono hF)
  | cons c2 l2 v2 vs2 F2 G2 H2 h2 t2 hF2 hG2 d2=>
   have:¬ (v::v2::vs2).length=1:=by simp
   rw[dif_neg this]
   exact .tup _ _ _ (.cons _ _ _ _ F G _ h (.cons _ _ _ _ F2 G2 _ h2 t2 hF2 hG2 d2) hF hG d)
theorem afun_sound (hT : TyOk P T) (hX : AllReal0 P X) {g : FuncId} {fn : Func} (hf : P.funcs[g]? = some fn) (hn : (fn.name == "runtime.NumGoroutine") = false) {args : List PV} {r : PV} (ha : afun T X fn args r) : Real P g args r := by
 unfold afun at ha
 split at ha
 case h_2=>exact ha.elim
 rename_i c hc
 refine⟨⟨fn,c,hf,hc,hn⟩,fun w hInv I vs val hargs hI=> ?_⟩
 refine calls_of_wp hf hc ?_
 have hsim:Sim (fun x=>w.heap.size≤x) w I I val (fun _=>none') (initS fn args) {tmps:=vs.toArray++Array.replicate (fn.ntmps - vs.toArray.size) undef,defers:=[]} w:=by
  refine{slots:= ?_,blocks:=fun d b hb=> ?_,disj:=fun d d' b b' hb=> ?_,imm:=fun d b hb=> ?_,new:=fun d b hb=> ?_,lt:=hI,old:=fun x hx=>.inl hx,below:=Kept.refl _ _,size:=fun x hx=>hx,heads:=fun d v hv=>(by cases hv),defers:=rfl}
  ·have hl:=hargs.len
   have e:(vs.toArray++Array.replicate (fn.ntmps - vs.toArray.size) undef).toList=vs++List.replicate (fn.ntmps - args.length) undef:=by simp[hl]
   show RelSL w I val [] (args++List.replicate (fn.ntmps - args.length) .bad) _
   rw[e]
   refine hargs.append ?_
   generalize fn.ntmps - args.length=n
   induction n with
   | zero=>exact .nil
   | succ n ih=>rw[List.replicate_succ,List.replicate_succ];exact .cons _ _ _ _ (.bad _) ih
  ·cases hb
  ·cases hb
  ·cases hb
  cases hb
 have fin:∀ σ a w',SimE (fun x=>w.heap.size≤x) w I σ a w'→(∃ us,closeL T σ fn.results.toList=some us∧r=tupOf us)→
   a.defers=[]∧∃ v,(results fn a.tmps).run P w'=.ok v w'∧∃ J F,RelR w' J r v F∧(∀ x,F x→w.heap.size≤x∧x < w'.heap.size)∧(∀ x,J x→(I x∨w.heap.size≤x)∧x < w'.heap.size∧¬ F x)∧Below w.heap.size w w':=by
  intro σ a w' ⟨I1,val1,fs1,hs⟩ ⟨us,hus,hr⟩
  obtain⟨xs,F,hrun,hlen,hRT,hF⟩:=closeL_rel hT _ σ hs us hus
  refine⟨hs.defers,_,results_run hrun,I1,F,by rw[hr];exact closed_rel hRT,fun x hx=> ?_,fun x hx=>⟨hs.old x hx,hs.lt x hx,fun hf=> ?_⟩,hs.below.below'⟩
  ·obtain⟨d,b,hb,hfx⟩:=hF x hx;exact hs.new d b hb x hfx
  obtain⟨d,b,hb,hfx⟩:=hF x hf;exact hs.imm d b hb x hfx hx
 refine awp_sound hT ⟨hX,hInv,fun g hg hb=>by have:=hInv.lt g hg;omega⟩ c _ _ _ _ _ (fun e σ a w' hs hq=> ?_) ⟨I,val,_,hsim⟩ ha
 cases e with
 | normal=>exact fin σ a w' hs hq
 | exit id=>exact hq.elim
 | ret=>exact fin σ a w' hs hq
theorem freeB_none :∀{x bl:List (Nat × Blk)},freeB bl x=true→∀{d:Nat} {b:Blk},blk x d=some b→blk bl d=none
 | [],_,_,d,b,h=>by cases h
 | (e,c)::x,bl,hf,d,b,h=>by
  obtain⟨h1,h2,h3⟩:=freeB_head hf
  rw[blk_cons] at h
  by_cases h0:e=d
  ·subst h0;exact h1
  rw[if_neg h0] at h;exact freeB_none h3 h
def EndF (fs:Nat→Ft)(bl:List (Nat × Blk)):Ft:=fun x=>∃ d b,blk bl d=some b∧fs d x
theorem EndF.right {fs:Nat→Ft}{x y:List (Nat × Blk)}(hf:freeB y x=true):∀ z,EndF fs y z→EndF fs (x++y) z:=by
 rintro z ⟨d,b,hb,hz⟩
 refine⟨d,b,?_,hz⟩
 rw[blk_append]
 cases hq:blk x d with
 | none=>exact hb
 | some c=>rw[freeB_none hf hq] at hb;cases hb
theorem EndF.left {fs:Nat→Ft}{x y:List (Nat × Blk)}:∀ z,EndF fs x z→EndF fs (x++y) z:=by
 rintro z ⟨d,b,hb,hz⟩
 exact⟨d,b,by rw[blk_append,hb],hz⟩
theorem EndF.apart {fs:Nat→Ft}{x y:List (Nat × Blk)}(hf:freeB y x=true)(hd:∀ d d' b b',blk x d=some b→blk y d'=some b'→d≠d'→∀ z,fs d z→¬ fs d' z):∀ z,EndF fs x z→¬ EndF fs y z:=by
 rintro z ⟨d,b,hb,hz⟩ ⟨d',b',hb',hz'⟩
 refine hd d d' b b' hb hb' ?_ z hz hz'
 rintro rfl
 rw[freeB_none hf hb] at hb'
 cases hb'
section
variable {w0 : World} {val0 : Nat → Value} {bl0 : List (Nat × Blk)} {J : Ft}
end
end
end Go.Av
namespace Go.Av
open Go Go.RowKit
set_option linter.unusedVariables false
set_option linter.unusedSimpArgs false
mutual
inductive Sh where
 | int (k:IntKind)
 | bool
 | str
 | slice (e:TypeId) (s:Sh)
 | struct (fs:Shs)
inductive Shs where
 | nil
 | cons (t:TypeId) (s:Sh) (l:Shs)
end
mutual
def Sh.size :Sh→Nat
 | .struct fs=>fs.size
 | _=>1
def Shs.size :Shs→Nat
 | .nil=>0
 | .cons _ s l=>s.size+l.size
end
def Shs.lay :Nat→Shs→List (TypeId × Nat × Nat)
 | _,.nil=>[]
 | o,.cons t s l=>(t,o,s.size)::l.lay (o+s.size)
mutual
def ShOk (P:Program)(t:TypeId):Sh→Prop
 | .int k=>P.underlying t=some (.int k)
 | .bool=>P.underlying t=some .bool
 | .str=>P.underlying t=some .string
 | .slice e s=>P.underlying t=some (.slice e)∧P.cellsOf e=s.size∧0 < s.size∧ShOk P e s
 | .struct fs=>∃ fields:Array Field,P.underlying t=some (.struct fields)∧P.cellsOf t=fs.size∧fields.toList.map (fun f=>(f.type,f.offset,P.cellsOf f.type))=fs.lay 0∧ShsOk P fs
def ShsOk (P:Program):Shs→Prop
 | .nil=>True
 | .cons t s l=>ShOk P t s∧ShsOk P l
end
mutual
def Sh.Is :Sh→List PV→Prop
 | .int k,cs=>∃ n,cs=[.int k n]∧(Lit.int k n).wf=true
 | .bool,cs=>∃ b,cs=[.bool b]
 | .str,cs=>∃ b,cs=[.str b]∧b.size≤maxLen
 | .slice e s,cs=>∃ rows,cs=[.sl s.size rows]∧rows.length≤maxLen∧∀ r∈rows,s.Is r
 | .struct fs,cs=>fs.Is cs
def Shs.Is :Shs→List PV→Prop
 | .nil,cs=>cs=[]
 | .cons _ s l,cs=>∃ c r,cs=c++r∧s.Is c∧l.Is r
end
section
variable {P : Program} {H : Type} {enc : TypeId × Value → H} {w : World} {sp : Nat → Bool} {held : Bool}
def there (w:World):Ft:=fun x=>x < w.heap.size
theorem cell_there {a:Addr}{u:Value}(h:w.cell? a=some u):a.block < w.heap.size∧a.spot=none:=by
 unfold World.cell? at h
 split at h
 ·rename_i c _ _ hh
  refine⟨(Array.getElem?_eq_some_iff.1 hh).1,?_⟩
  cases hs:a.spot with
  | none=>rfl
  | some s=>simp[hs] at h
 cases h
theorem open_rows {s:Sh}{e:TypeId}{a:Addr}{base n:Nat}(hsz:P.cellsOf e=s.size)(hpos:0 < s.size)(ih:∀ vs x,DataW.trod enc P w base sp held n e vs=some x→∃ cs,RelL w (there w) cs vs none'∧s.Is cs∧cs.length=s.size):
  ∀ m,(∀ i,i < m→∃ y,(w.cells? base (a.add (i * P.cellsOf e)) (P.cellsOf e)).bind (DataW.trod enc P w base sp held n e)=some y)→
  ∃(rows:List (List PV)) (vs:List Value),rows.length=m∧(∀ r∈rows,s.Is r∧r.length=s.size)∧RelL w (there w) rows.flatten vs none'∧(∀(j:Nat) (u:Value),vs[j]? =some u→w.cell? (a.add j)=some u)∧(0 < m→a.block < w.heap.size∧a.spot=none)∧vs.length=m * s.size
 | 0,_=>⟨[],[],rfl,fun r h=>by simp at h,.nil _,fun j u h=>by simp at h,fun h=>by omega,by simp⟩
 | m+1,h=>by
  obtain⟨rows,vs,h1,h2,h3,h4,h5,h6⟩:=open_rows (a:=a) hsz hpos ih m fun i hi=>h i (by omega)
  obtain⟨y,hy⟩:=h m (by omega)
  rw[Option.bind_eq_some_iff] at hy
  obtain⟨us,hus,hy⟩:=hy
  obtain⟨cs,hR,hIs,hlen⟩:=ih us y hy
  have hcs:=World.cells?_some hus
  have hul:us.length=s.size:=by rw[hR.len,hlen]
  have hcell:∀(j:Nat) (u:Value),us[j]? =some u→w.cell? ((a.add (m * s.size)).add j)=some u:=by
   intro j u hj
   have hjl:j < us.length:=(List.getElem?_eq_some_iff.1 hj).1
   have:=hcs.2.2 j (by omega)
   rw[hsz] at this
   rw[this,hj]
  have h0:∃ u,us[0]? =some u:=⟨us[0]'(by omega),by simp⟩
  obtain⟨u0,hu0⟩:=h0
  have hth:=cell_there (hcell 0 u0 hu0)
  have hbl:a.block < w.heap.size:=by rw[add_block,add_block] at hth;exact hth.1
  have hsp:a.spot=none:=by
   rcases Nat.eq_zero_or_pos m with h0 | h0
   ·subst h0
    have:=hth.2
    simpa [Addr.add] using this
   exact(h5 h0).2
  refine⟨rows++[cs],vs++us,by simp[h1],fun r hr=> ?_,?_,fun j u hj=> ?_,fun _=>⟨hbl,hsp⟩,by simp[h6,hul,Nat.succ_mul]⟩
  ·rw [List.mem_append] at hr
   rcases hr with hr | hr
   ·exact h2 r hr
   simp at hr;subst hr;exact⟨hIs,hlen⟩
  ·rw [List.flatten_append]
   simp only[List.flatten_cons,List.flatten_nil,List.append_nil]
   exact h3.append hR (fun _ h=>h.elim) (fun _ h=>h) (fun _ h=>h)
  rw[List.getElem?_append] at hj
  split at hj
  ·exact h4 j u hj
  rename_i hge
  have:=hcell _ u hj
  obtain⟨b,off,spt⟩:=a
  simp only at hsp
  subst hsp
  rw[Addr.add_mid,Addr.add_mid] at this
  rw[Addr.add_mid,← this]
  congr 2
  omega
mutual
theorem open_sh :∀(s:Sh) (t:TypeId) (fuel base:Nat) (vs:List Value) (x:DataW H × List MemPlace),ShOk P t s→DataW.trod enc P w base sp held fuel t vs=some x→∃ cs,RelL w (there w) cs vs none'∧s.Is cs∧cs.length=s.size
  | .int k,t,fuel,base,vs,x,ht,h=>by
    obtain⟨n,rfl,_,hwf⟩:=DataW.trod_int ht h
    exact⟨[.int k n],.cons _ _ _ _ none' none' _ (.int k n _) (.nil _) (fun _ h=>h) (fun _ h=>h) (fun _ h=>h.elim),⟨n,rfl,hwf⟩,rfl⟩
  | .bool,t,fuel,base,vs,x,ht,h=>by
    obtain⟨b,rfl,_⟩:=DataW.trod_bool ht h
    exact⟨[.bool b],.cons _ _ _ _ none' none' _ (.bool b _) (.nil _) (fun _ h=>h) (fun _ h=>h) (fun _ h=>h.elim),⟨b,rfl⟩,rfl⟩
  | .str,t,fuel,base,vs,x,ht,h=>by
    obtain⟨b,rfl,_,hb⟩:=DataW.trod_string ht h
    exact⟨[.str b],.cons _ _ _ _ none' none' _ (.str b _) (.nil _) (fun _ h=>h) (fun _ h=>h) (fun _ h=>h.elim),⟨b,rfl,hb⟩,rfl⟩
  | .slice e s,t,fuel,base,vs,x,ht,h=>by
    obtain⟨ht,hsz,hpos,he⟩:=ht
    rcases DataW.trod_slice ht h with ⟨rfl,_⟩ | ⟨a,len,cap,elems,rest,n,_,rfl,_,_,hlc,hcm,hel,hels,_⟩
    · exact⟨[.sl s.size []],.cons _ _ _ _ none' none' _ (.slnil _ _) (.nil _) (fun _ h=>h) (fun _ h=>h) (fun _ h=>h.elim),⟨[],rfl,Nat.zero_le _,fun r hr=>by simp at hr⟩,rfl⟩
    · obtain⟨rows,us,h1,h2,h3,h4,h5,_⟩:=open_rows (a:=a) hsz hpos (fun vs x hx=>open_sh s e n base vs x he hx) len (fun i hi=>⟨elems[i]'(by omega),by rw[hels i hi];simp⟩)
      refine⟨[.sl s.size rows],.cons _ _ _ _ none' none' _ ?_ (.nil _) (fun _ h=>h) (fun _ h=>h) (fun _ h=>h.elim),⟨rows,rfl,by omega,fun r hr=>(h2 r hr).1⟩,rfl⟩
      rw[← h1]
      have hl:¬ rows=[]→0 < len:=fun hne=>by rw[← h1];exact List.length_pos_iff.2 hne
      exact .sl s.size rows a cap us _ (fun r hr=>(h2 r hr).2) (fun hne=>(h5 (hl hne)).1) (fun hne=>(h5 (hl hne)).2) h4 h3 (by rw[h1];exact hlc)
  | .struct fs,t,fuel,base,vs,x,ht,h=>by
    obtain⟨fields,ht,hsz,hlay,hfs⟩:=ht
    obtain⟨xs,n,_,_,hlen,hxl,hx⟩:=DataW.trod_struct ht h
    obtain⟨cs,hR,hIs,hl⟩:=open_shs fs 0 n base vs hfs fun tr htr=>by
      rw[← hlay,List.mem_map] at htr
      obtain⟨f,hf,rfl⟩:=htr
      obtain⟨i,hi⟩:=List.mem_iff_getElem?.1 hf
      have hi':fields[i]? =some f:=by simpa using hi
      have hil:i < fields.size:=(Array.getElem?_eq_some_iff.1 hi').1
      exact⟨xs[i]'(by omega),by rw[hx i f hi'];simp⟩
    refine⟨cs,?_,hIs,hl⟩
    have:(vs.drop 0).take fs.size=vs:=by rw[List.drop_zero,← hsz,← hlen];exact List.take_length
    rwa [this] at hR
theorem open_shs :∀(l:Shs) (o n base:Nat) (vs:List Value),ShsOk P l→(∀ tr∈l.lay o,∃ x,DataW.trod enc P w base sp held n tr.1 ((vs.drop tr.2.1).take tr.2.2)=some x)→
  ∃ cs,RelL w (there w) cs ((vs.drop o).take l.size) none'∧l.Is cs∧cs.length=l.size
 | .nil,o,n,base,vs,_,_=>⟨[],by simp only[Shs.size,List.take_zero];exact .nil _,rfl,rfl⟩
 | .cons t s l,o,n,base,vs,ht,h=>by
  obtain⟨x,hx⟩:=h (t,o,s.size) (by simp[Shs.lay])
  obtain⟨cs,hR,hIs,hl⟩:=open_sh s t n base _ x ht.1 hx
  obtain⟨cs',hR',hIs',hl'⟩:=open_shs l (o+s.size) n base vs ht.2 fun tr htr=>h tr (by simp[Shs.lay,htr])
  refine⟨cs++cs',?_,⟨cs,cs',rfl,hIs,hIs'⟩,by simp[Shs.size,hl,hl']⟩
  simp only[Shs.size]
  rw[List.take_add,List.drop_drop]
  exact hR.append hR' (fun _ h=>h.elim) (fun _ h=>h) (fun _ h=>h)
end
end
end Go.Av
namespace Go.Av
open Go Go.RowKit Go.ChangeShapes
set_option linter.unusedVariables false
set_option linter.unusedSimpArgs false
mutual
theorem Sh.leafs :∀(s:Sh) (cs:List PV),s.Is cs→allB leafB cs=true
 | .int k,cs,h=>by obtain⟨n,rfl,_⟩:=h;rfl
 | .bool,cs,h=>by obtain⟨b,rfl⟩:=h;rfl
 | .str,cs,h=>by obtain⟨b,rfl,_⟩:=h;rfl
 | .slice e s,cs,h=>by obtain⟨rows,rfl,_⟩:=h;rfl
 | .struct fs,cs,h=>Shs.leafs fs cs h
theorem Shs.leafs :∀(l:Shs) (cs:List PV),l.Is cs→allB leafB cs=true
 | .nil,cs,h=>by subst h;rfl
 | .cons t s l,cs,h=>by
  obtain⟨c,r,rfl,h1,h2⟩:=h
  have a1:=Sh.leafs s c h1
  have a2:=Shs.leafs l r h2
  clear h1 h2
  induction c with
  | nil=>exact a2
  | cons x c ih=>
   simp only[allB,Bool.and_eq_true] at a1
   simp only[List.cons_append,allB,Bool.and_eq_true]
   exact⟨a1.1,ih a1.2⟩
end
def topPV :Sh→List PV→PV
 | .struct _,cs=>.agg cs
 | _,cs=>getL cs 0
def ArgsIs :List Sh→List PV→Prop
 | [],l=>l=[]
 | s::ss,l=>∃ cs r,s.Is cs∧l=topPV s cs::r∧ArgsIs ss r
def AllSh (P:Program):List TypeId→List Sh→Prop
 | [],[]=>True
 | t::ts,s::ss=>ShOk P t s∧AllSh P ts ss
 | _,_=>False
section
variable {P : Program} {H : Type} {enc : TypeId × Value → H} {w W W' : World} {sp : Nat → Bool} {held : Bool}
theorem ok_one_cell {t:TypeId}{v:Value}{r:Reach}{b0:Nat}(h:Value.okWide P w r b0 t v)(hs:∀ fs,P.underlying t≠some (.struct fs))(ha:∀ n e,P.underlying t≠some (.array n e)):Cell.okWide P w r b0 t v:=by
 unfold Value.okWide at h
 split at h
 ·rename_i fs hfs;exact absurd hfs (hs _)
 ·rename_i n e hne;exact absurd hne (ha _ _)
 exact h
theorem open_arg (s:Sh){t:TypeId}{v:Value}{d:DataW H}{ps:List MemPlace}{r:Reach}{b0:Nat}{val:Nat→Value}(ht:ShOk P t s)(hval:Value.okWide P w r b0 t v)(hd:DataW.Trod enc P w 0 sp held t v d ps):
  ∃ cs,s.Is cs∧RelS w (there w) val [] (topPV s cs) v:=by
 obtain⟨fuel,hd⟩:=hd
 obtain⟨cs,hR,hIs,hlen⟩:=open_sh s t fuel 0 _ _ ht hd
 refine⟨cs,hIs,?_⟩
 have one:v.cells.toList=[v]→(∀ c,cs=[c]→leafB c=true→RelS w (there w) val [] c v):=by
  intro hv c hc hl
  subst hc
  rw[hv] at hR
  cases hR with
  | cons c l v vs F G H h t _ _ _=>exact .leaf _ _ hl (leaf_any hl h)
 cases s with
 | struct fs=>
  obtain⟨fields,hu,_⟩:=ht
  unfold Value.okWide at hval
  rw[hu] at hval
  obtain⟨arr,rfl,_⟩:=hval
  exact .agg cs arr.toList (hR.slots (Shs.leafs fs cs hIs))
 | int k=>
  obtain⟨n,rfl,_⟩:=hIs
  have ht':P.underlying t=some (.int k):=ht
  have hc:=ok_one_cell hval (by rw[ht'];intro _ h;cases h) (by rw[ht'];intro _ _ h;cases h)
  unfold Cell.okWide Cell.ok at hc
  rw[ht'] at hc
  cases v<;>simp at hc
  exact one rfl _ rfl rfl
 | bool=>
  obtain⟨b,rfl⟩:=hIs
  have ht':P.underlying t=some .bool:=ht
  have hc:=ok_one_cell hval (by rw[ht'];intro _ h;cases h) (by rw[ht'];intro _ _ h;cases h)
  unfold Cell.okWide Cell.ok at hc
  rw[ht'] at hc
  cases v<;>simp at hc
  exact one rfl _ rfl rfl
 | str=>
  obtain⟨b,rfl,_⟩:=hIs
  have ht':P.underlying t=some .string:=ht
  have hc:=ok_one_cell hval (by rw[ht'];intro _ h;cases h) (by rw[ht'];intro _ _ h;cases h)
  unfold Cell.okWide Cell.ok at hc
  rw[ht'] at hc
  cases v<;>simp at hc
  exact one rfl _ rfl rfl
 | slice e s=>
  obtain⟨rows,rfl,_⟩:=hIs
  obtain⟨ht',_⟩:=ht
  have hc:=ok_one_cell hval (by rw[ht'];intro _ h;cases h) (by rw[ht'];intro _ _ h;cases h)
  unfold Cell.okWide Cell.ok at hc
  rw[ht'] at hc
  cases v<;>simp at hc
  exact one rfl _ rfl rfl
theorem open_args {r:Reach}{b0:Nat}{val:Nat→Value}:∀(ss:List Sh) (ts:List TypeId) (vs:List Value) (ds:List (DataW H)) (ps:List MemPlace),AllSh P ts ss→
  (∀(j:Nat) t v,ts[j]? =some t→vs[j]? =some v→Value.okWide P w r b0 t v)→DataW.TrodAll enc P w 0 sp held ts vs ds ps→∃ pvs,RelSL w (there w) val [] pvs vs∧ArgsIs ss pvs
 | [],[],[],[],ps,_,_,_=>⟨[],.nil,rfl⟩
 | [],[],_::_,_,ps,_,_,h=>h.elim
 | [],[],[],_::_,ps,_,_,h=>h.elim
 | [],_::_,_,_,ps,h,_,_=>h.elim
 | _::_,[],_,_,ps,h,_,_=>h.elim
 | s::ss,t::ts,v::vs,d::ds,ps,ht,hval,h=>by
  obtain⟨p,q,h1,h2,_⟩:=h
  obtain⟨cs,hIs,hR⟩:=open_arg (val:=val) s ht.1 (hval 0 t v rfl rfl) h1
  obtain⟨pvs,hRs,hA⟩:=open_args (val:=val) ss ts vs ds q ht.2 (fun j t' v' hj hv=>hval (j+1) t' v' (by simpa using hj) (by simpa using hv)) h2
  exact⟨_,.cons _ _ _ _ hR hRs,cs,pvs,hIs,rfl,hA⟩
 | _::_,_::_,[],_,ps,_,_,h=>h.elim
 | _::_,_::_,_::_,[],ps,_,_,h=>h.elim
theorem carried (hl:laidOutB P=true)(hb:Below W.heap.size W W'):∀(ts:List TypeId) (vs:List Value) (ds:List (DataW H)) (ps:List MemPlace),(∀ t∈ts,P.readableRec t=true∧t < P.types.size)→(∀ x∈ps,x.block < W.heap.size)→
  DataW.TrodAll enc P W 0 (fun _=>true) true ts vs ds ps→DataW.TrodAll enc P W' 0 (fun b=>decide (b < W.heap.size)) true ts vs ds ps
 | [],[],[],ps,_,_,h=>h
 | [],_::_,_,ps,_,_,h=>h.elim
 | [],[],_::_,ps,_,_,h=>h.elim
 | t::ts,v::vs,d::ds,ps,hr,hlt,h=>by
  obtain⟨p,q,h1,h2,rfl⟩:=h
  exact⟨p,q,Below.trod hl (hr t (by simp)).1 (hr t (by simp)).2 h1 hb (fun x hx=>hlt x (by simp[hx])),carried hl hb ts vs ds q (fun t' ht'=>hr t' (by simp[ht'])) (fun x hx=>hlt x (by simp[hx])) h2,rfl⟩
 | _::_,[],_,ps,_,_,h=>h.elim
 | _::_,_::_,[],ps,_,_,h=>h.elim
theorem calls_true {f:FuncId}{fn:Func}{s:ChangeSpec}{apart fresh handsOn:Bool}{args:Array Value}{ds gs:List (DataW H)}{before:List MemPlace}{tr:TypeId}{ss:List Sh}{r:Reach}{b0:Nat}
    (hl:laidOutB P=true) (hvars:s.vars=[]) (hread:∀ t∈fn.params.toList,P.readableRec t=true∧t < P.types.size) (hres:fn.resultTypes=#[tr]) (hbool:P.underlying tr=some .bool) (hsh:AllSh P fn.params.toList ss)
    (hfn:∀ ds:List (DataW H),ds.length=fn.params.toList.length→s.fn H ds={results:=[.lit (.bool true)],args:=ds})
    (hreal:∀ pvs,ArgsIs ss pvs→Real P f pvs (.bool true)) (hinv:Inv P W)
    (hval:∀(j:Nat) t v,fn.params[j]? =some t→args[j]? =some v→Value.okWide P W r b0 t v) (hW:DataW.Whole enc P fn.params.toList s.vars apart W args.toList ds gs before):
    Calls P f args W fun e W'=>∃ v,e=.returned v∧s.post enc P fn apart fresh handsOn false W args v W':=by
  have hW':=hW
  obtain⟨p,q,hA,hV,rfl,hfz,hnd⟩:=hW
  obtain⟨pvs,hRs,hArgs⟩:=open_args (val:=fun _=>default) ss fn.params.toList args.toList ds p hsh (fun j t v hj hv=>hval j t v (by simpa using hj) (by simpa using hv)) hA
  have hgs:gs=[]∧q=[]:=by
    rw[hvars] at hV
    cases gs with
    | nil=>exact⟨rfl,hV⟩
    | cons g gs=>exact hV.elim
  obtain⟨rfl,rfl⟩:=hgs
  have hc:=(hreal pvs hArgs).2 W hinv (there W) args.toList (fun _=>default) hRs (fun x hx=>hx)
  refine Calls.mono (by simpa using hc) fun e W' he=> ?_
  cases e with
  | panicked c=>exact he.elim
  | outgrown=>exact he.elim
  | returned v=>
    obtain⟨J,F,hR,_,_,hB⟩:=he
    have hv:v=.bool true:=by
      cases hR with
      | one c v F h=>cases h with
        | one c v F h=>cases h;rfl
    subst hv
    have hlen:ds.length=fn.params.toList.length:=by
      clear hRs hArgs hc hval hfn hread hsh hW' hR hB hfz hnd hV
      revert hA
      generalize fn.params.toList=ts
      generalize args.toList=vs
      induction ts generalizing vs ds p with
      | nil=>cases vs<;>cases ds<;>intro h<;>first | rfl | exact h.elim
      | cons t ts ih=>cases vs<;>cases ds<;>intro h<;>first | exact h.elim | (obtain⟨p1,q1,_,h2,_⟩:=h;simpa using ih _ _ h2)
    have hb:=hfn (ds++[]) (by simpa using hlen)
    have hW2:=hW'
    refine⟨_,rfl,ds,[],p++[],[],p,[],hW2,?_,?_,?_,?_,fun h=>by cases h⟩
    · rw[hres,hb]
      exact trodAll_mk1 (shut_bool hbool true)
    · rw[hb]
      simp only[List.append_nil]
      exact carried hl hB _ _ _ _ hread (fun x hx=>hW2.lt x (by simp[hx])) hA
    · rw[hvars,hb];rfl
    · exact World.keptBut_mono (fun p hp=>⟨hp,.inr (.inl (by simpa using hp))⟩) (hB.frame _)
end
end Go.Av
namespace Go.Av
open Go Go.RowKit
set_option linter.unusedVariables false
set_option linter.unusedSimpArgs false
def relB :List PV→List Value→Bool
 | [],[]=>true
 | .int k n::l,.int k' n'::vs=>decide (k=k') && decide (n=n') && relB l vs
 | .bool b::l,.bool b'::vs=>(b == b') && relB l vs
 | .str s::l,.string s'::vs=>decide (s.data=s'.data) && relB l vs
 | .zc::l,.slice none 0 0::vs=>relB l vs
 | _,_=>false
theorem relB_rel :∀(l:List PV) (vs:List Value),relB l vs=true→∀ w I,RelL w I l vs none':=by
  intro l vs
  induction l generalizing vs with
  | nil=>intro h w I;cases vs with
    | nil=>exact .nil _
    | cons v vs=>simp[relB] at h
  | cons c l ih=>
    intro h w I
    cases vs with
    | nil=>cases c<;>simp[relB] at h
    | cons v vs=>
      unfold relB at h
      split at h
      · rename_i h1 h2;cases h1
      · rename_i k n l' k' n' vs' h1 h2
        cases h1;cases h2
        simp only[Bool.and_eq_true,decide_eq_true_eq] at h
        obtain⟨⟨rfl,rfl⟩,h⟩:=h
        exact .cons _ _ _ _ none' none' _ (.int _ _ _) (ih _ h w I) (fun _ h=>h) (fun _ h=>h) (fun _ h=>h.elim)
      · rename_i b l' b' vs' h1 h2
        cases h1;cases h2
        simp only[Bool.and_eq_true,beq_iff_eq] at h
        obtain⟨rfl,h⟩:=h
        exact .cons _ _ _ _ none' none' _ (.bool _ _) (ih _ h w I) (fun _ h=>h) (fun _ h=>h) (fun _ h=>h.elim)
      · rename_i s l' s' vs' h1 h2
        cases h1;cases h2
        simp only[Bool.and_eq_true,decide_eq_true_eq] at h
        obtain⟨hs,h⟩:=h
        obtain⟨s⟩:=s
        obtain⟨s'⟩:=s'
        simp only at hs
        subst hs
        exact .cons _ _ _ _ none' none' _ (.str _ _) (ih _ h w I) (fun _ h=>h) (fun _ h=>h) (fun _ h=>h.elim)
      · rename_i l' vs' h1 h2
        cases h1;cases h2
        exact .cons _ _ _ _ none' none' _ (.zc _) (ih _ h w I) (fun _ h=>h) (fun _ h=>h) (fun _ h=>h.elim)
      · cases h
def oneB (P:Program):List Field→List Bool→Bool
 | _,[]=>true
 | [],_=>true
 | f::l,b::o=>(!b || (match P.underlying f.type with | some (.slice _)=>true | _=>false)) && oneB P l o
theorem oneB_ok {P:Program}:∀(l:List Field) (o:List Bool),oneB P l o=true→∀(k:Nat) (fd:Field),o[k]? =some true→l[k]? =some fd→∃ e,P.underlying fd.type=some (.slice e)
 | l,[],_,k,fd,h,_=>by simp at h
 | [],_::_,_,k,fd,_,h=>by simp at h
 | f::l,b::o,hb,0,fd,h1,h2=>by
  simp only[List.getElem?_cons_zero,Option.some.injEq] at h1 h2
  subst h1;subst h2
  simp only[oneB,Bool.not_true,Bool.false_or,Bool.and_eq_true] at hb
  have:=hb.1
  split at this
  ·rename_i e he;exact⟨e,he⟩
  cases this
 | f::l,b::o,hb,k+1,fd,h1,h2=>by
  simp only[oneB,Bool.and_eq_true] at hb
  exact oneB_ok l o hb.2 k fd (by simpa using h1) (by simpa using h2)
def kindOkB (P:Program)(t:TypeId)(z:List PV)(k:TK):Bool:=
 match k,P.underlying t with
 | .int k,some (.int k')=>decide (k=k')
 | .bool,some .bool=>true
 | .str,some .string=>true
 | .slice e,some (.slice e')=>decide (e=e')
 | .struct fs fl one,some (.struct fields)=>oneB P fields.toList one && decide (fields.toList.mapM (fun f=>(P.info? f.type).map fun i=>(f.offset,i.size))=some fs) && (!fl || (!P.eqGuardType P.depth t && (isStr P t && flatB P 20 t z)))
 | _,_=>false
theorem kindOkB_ok {P:Program}{t:TypeId}{z:List PV}{k:TK}(h:kindOkB P t z k=true):KindOk P t z k:=by
 unfold kindOkB at h
 split at h
 ·rename_i k k' hu;simp only[decide_eq_true_eq] at h;subst h;exact hu
 ·rename_i hu;exact hu
 ·rename_i hu;exact hu
 ·rename_i e e' hu;simp only[decide_eq_true_eq] at h;subst h;exact hu
 ·rename_i fs fl one fields hu
  simp only[Bool.and_eq_true,decide_eq_true_eq] at h
  refine⟨fields,hu,h.1.2,fun hf=> ?_,oneB_ok _ _ h.1.1⟩
  have h2:=h.2
  subst hf
  simp only[Bool.not_true,Bool.false_or,Bool.and_eq_true,Bool.not_eq_true'] at h2
  exact⟨h2.1,flat_cmp h2.2.1 h2.2.2⟩
 cases h
def tyB (P:Program)(t:TypeId)(i:TI):Bool:=
  match P.info? t with
  | some inf=>match inf.zero with
    | some z=>nq inf.size i.size && nq inf.bytes i.bytes && relB i.zero z.cells.toList && nq i.zero.length i.size && allB leafB i.zero && kindOkB P t i.zero i.kind
    | none=>false
  | none=>false
theorem tyB_ok {P:Program}{t:TypeId}{i:TI}(h:tyB P t i=true):TyFact P t i:=by
 unfold tyB at h
 split at h
 case h_2=>cases h
 rename_i inf hi
 split at h
 case h_2=>cases h
 rename_i z hz
 simp only[Bool.and_eq_true] at h
 obtain⟨⟨⟨⟨⟨h1,h2⟩,h3⟩,h4⟩,h5⟩,h6⟩:=h
 exact⟨inf,z,hi,nq_eq h1,nq_eq h2,hz,relB_rel _ _ h3,nq_eq h4,h5,kindOkB_ok h6⟩
def lookT :List (Nat × TI)→Nat→Option TI
 | [],_=>none
 | (e,i)::l,t=>bif nq e t then some i else lookT l t
def tysB (P:Program):List (Nat × TI)→Bool
 | []=>true
 | (t,i)::l=>tyB P t i && tysB P l
theorem tysB_ok {P:Program}:∀(l:List (Nat × TI)),tysB P l=true→TyOk P (lookT l)
 | [],_,t,i,h=>by cases h
 | (e,j)::l,h,t,i,ht=>by
  simp only[tysB,Bool.and_eq_true] at h
  simp only[lookT] at ht
  cases hb:nq e t with
  | true=>
   rw[hb] at ht
   have hb:=nq_eq hb
   subst hb
   simp only[cond_true,Option.some.injEq] at ht
   subst ht
   exact tyB_ok h.1
  | false=>rw[hb] at ht;exact tysB_ok l h.2 t i ht
mutual
def shB (P:Program)(t:TypeId):Sh→Bool
 | .int k=>match P.underlying t with | some (.int k')=>decide (k'=k) | _=>false
 | .bool=>match P.underlying t with | some .bool=>true | _=>false
 | .str=>match P.underlying t with | some .string=>true | _=>false
 | .slice e s=>(match P.underlying t with | some (.slice e')=>decide (e'=e) | _=>false) && nq (P.cellsOf e) s.size && nlt 0 s.size && shB P e s
 | .struct fs=>(match P.underlying t with | some (.struct fields)=>decide (fields.toList.map (fun f=>(f.type,f.offset,P.cellsOf f.type))=fs.lay 0) | _=>false) && nq (P.cellsOf t) fs.size && shsB P fs
def shsB (P:Program):Shs→Bool
 | .nil=>true
 | .cons t s l=>shB P t s && shsB P l
end
mutual
theorem shB_ok {P:Program}:∀(t:TypeId) (s:Sh),shB P t s=true→ShOk P t s
 | t,.int k,h=>by
  simp only[shB] at h
  split at h
  ·rename_i k' hu;simp only[decide_eq_true_eq] at h;subst h;exact hu
  cases h
 | t,.bool,h=>by
  simp only[shB] at h
  split at h
  ·rename_i hu;exact hu
  cases h
 | t,.str,h=>by
  simp only[shB] at h
  split at h
  ·rename_i hu;exact hu
  cases h
 | t,.slice e s,h=>by
  simp only[shB,Bool.and_eq_true] at h
  obtain⟨⟨⟨h1,h2⟩,h3⟩,h4⟩:=h
  split at h1
  ·rename_i e' hu
   simp only[decide_eq_true_eq] at h1
   subst h1
   exact⟨hu,nq_eq h2,nlt_lt h3,shB_ok _ s h4⟩
  cases h1
 | t,.struct fs,h=>by
  simp only[shB,Bool.and_eq_true] at h
  obtain⟨⟨h1,h2⟩,h3⟩:=h
  split at h1
  ·rename_i fields hu
   simp only[decide_eq_true_eq] at h1
   exact⟨fields,hu,nq_eq h2,h1,shsB_ok fs h3⟩
  cases h1
theorem shsB_ok {P:Program}:∀(l:Shs),shsB P l=true→ShsOk P l
 | .nil,_=>trivial
 | .cons t s l,h=>by
  simp only[shsB,Bool.and_eq_true] at h
  exact⟨shB_ok t s h.1,shsB_ok l h.2⟩
end
def allShB (P:Program):List TypeId→List Sh→Bool
 | [],[]=>true
 | t::ts,s::ss=>shB P t s && allShB P ts ss
 | _,_=>false
theorem allShB_ok {P:Program}:∀(ts:List TypeId) (ss:List Sh),allShB P ts ss=true→AllSh P ts ss
 | [],[],_=>trivial
 | [],_::_,h=>by cases h
 | _::_,[],h=>by cases h
 | t::ts,s::ss,h=>by
  simp only[allShB,Bool.and_eq_true] at h
  exact⟨shB_ok t s h.1,allShB_ok ts ss h.2⟩
theorem real {P : Program} {T : Tys} (hT : TyOk P T) {g : FuncId} {fn : Func} (hf : P.funcs[g]? = some fn) (hn : (fn.name == "runtime.NumGoroutine") = false) {args : List PV} {r : PV} (ha : afun T ⟨Real P, RealM P, RealC P⟩ fn args r) : Real P g args r :=
 afun_sound hT ⟨fun _ _ _ h=>h,fun _ _ _ _ h=>h,fun _ _ _ h=>h⟩ hf hn ha
end Go.Av

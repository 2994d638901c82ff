/- The abstract walk is sound: operations, calls, what is said otherwise of a state. -/
import Derived.Test.YtjbokkoiicoahaaGreatDoorAvk
import Derived.Laws.Cover3
namespace Go.Av
open Go Go.RowKit
set_option linter.unusedVariables false
set_option linter.unusedSimpArgs false
theorem bytesB_flat :∀{rows:List (List PV)},bytesB rows=true→rows.flatten=(nums rows).map (PV.int .u8)∧(nums rows).length=rows.length
 | [],_=>⟨rfl,rfl⟩
 | r::l,h=>by
  unfold bytesB at h
  split at h
  ·rename_i h1;cases h1
  ·rename_i n l' h1
   cases h1
   obtain⟨e1,e2⟩:=bytesB_flat h
   exact⟨by simp[nums,rowNum,e1],by simp[nums,e2]⟩
  cases h
section
variable {P : Program} {T : Tys} {B : Ft} {W0 : World} {I0 : Ft} {I : Ft} {val : Nat → Value} {fs : Nat → Ft} {σ σ' : St} {a : Act} {w w' : World} {o : Oper}
theorem relL_u8 :∀{ns:List Int} {vs:List Value} {F:Ft},RelL w I (ns.map (PV.int .u8)) vs F→vs=ns.map (Value.int .u8)
 | [],_,_,h=>by cases h;rfl
 | n::ns,_,_,h=>by
  cases h with
  | cons c l v vs F G H h t hF hG d=>cases h;rw[relL_u8 t];rfl
theorem relSL_u8 {bl:List (Nat × Blk)}:∀{ns:List Int} {vs:List Value},RelSL w I val bl (ns.map (PV.int .u8)) vs→vs=ns.map (Value.int .u8)
 | [],_,h=>by cases h;rfl
 | n::ns,_,h=>by
  cases h with
  | cons c l v vs h t=>rw[rel_int h,relSL_u8 t];rfl
theorem rowsOf_rel (h:Sim B W0 I0 I val fs σ a w){c:PV}{v:Value}{rows:List (List PV)}(hc:RelS w I val σ.bl c v)(hr:rowsOf σ.bl c=some rows):
  (v=.slice none 0 0∧rows=[])∨∃ ad cap vs,v=.slice (some ad) rows.length cap∧(∀(j:Nat) (u:Value),vs[j]? =some u→w.cell? (ad.add j)=some u)∧((∃ F,RelL w I rows.flatten vs F)∨RelSL w I val σ.bl rows.flatten vs):=by
 cases hc with
 | leaf c v hl hV=>
  cases hV with
  | int=>cases hr
  | bool=>cases hr
  | str=>cases hr
  | zc=>simp only[rowsOf,Option.some.injEq] at hr;exact .inl ⟨rfl,hr.symm⟩
  | raw=>cases hl
  | bad=>cases hl
  | ow=>cases hl
  | slnil sz=>simp only[rowsOf,Option.some.injEq] at hr;exact .inl ⟨rfl,hr.symm⟩
  | sl sz rows ad cap vs F hu hI hs hcell hR hcap=>
   simp only[rowsOf,Option.some.injEq] at hr
   subst hr
   exact .inr ⟨ad,cap,vs,rfl,hcell,.inl ⟨_,hR⟩⟩
 | own d b hb hk=>
  simp only[rowsOf,hb] at hr
  split at hr
  ·rename_i sz rows' hq
   cases hq
   simp only[Option.some.injEq] at hr
   subst hr
   obtain⟨e,xs,G,hu,how,hR,hG,hob⟩:=h.blocks d _ hb
   rcases how.2 with ⟨hv,hn⟩ | ⟨g,cap,cur,hv,_,hh,_⟩
   ·exact .inl ⟨hv,List.eq_nil_of_length_eq_zero hn⟩
   exact .inr ⟨⟨g,0,none⟩,cap,xs,hv,how.cells (by rw[hv];rfl),.inl ⟨_,hR⟩⟩
  ·rename_i sz r hq
   cases hq
   simp only[Option.some.injEq] at hr
   subst hr
   obtain⟨g,hvd,_,T',c',hfg,hh,hsl,hrl,_⟩:=h.blocks d _ hb
   refine .inr ⟨⟨g,0,none⟩,1,c'.toList,hvd,fun j u hj=> ?_,.inr (by simpa using hsl)⟩
   rw[Addr.add_mid,Nat.zero_add,cell_of_row w g j c' T' (0,0) hh];simpa using hj
  cases hr
 | pt d i j b g hb hg=>cases hr
 | rd cs a vs hI hs hcell hr'=>cases hr
 | agg cs vs h=>cases hr
 | tup cs vs h=>cases hr
 | fn f cs vs h=>cases hr
 | bad v=>cases hr
theorem goes_conv (hT:TyOk P T)(h:Sim B W0 I0 I val fs σ a w){t t':TypeId}{x:Operand}(ho:o.op=.convert t t' x)(hs:stConv T σ o.dst t t' (σ.get x)=some σ'):Goes P B W0 I0 o a w σ':=by
 have ex:=h.eval x
 unfold stConv at hs
 split at hs
 ·rename_i ts _ _ _ k _ _ _ ht ht'
  obtain⟨_,_,_,_,_,_,_,_,_,hu'⟩:=hT _ _ ht'
  have hu':P.underlying t'=some (.int k):=hu'
  split at hs
  ·rename_i k0 k1 n hx
   obtain⟨_,_,_,_,_,_,_,_,_,hu⟩:=hT _ _ ht
   have hu:P.underlying t=some (.int k0):=hu
   simp only[Option.some.injEq] at hs
   subst hs
   rw[hx] at ex
   have ex:=rel_int ex
   have hk:P.intKind t'=k:=by simp[Program.intKind,hu']
   have:=run_convert_int (P:=P) w t t' k1 n (by rw[hu];rfl) (by rw[hk];exact hu')
   rw[hk] at this
   exact h.value (by simp[execOp,ho,ex,this]) (.leaf _ _ rfl (.int _ _ _))
  cases hs
 ·rename_i e _ _ _ _ _ _ ht ht'
  obtain⟨_,_,_,_,_,_,_,_,_,hu⟩:=hT _ _ ht
  have hu:P.underlying t=some (.slice e):=hu
  obtain⟨_,_,_,_,_,_,_,_,_,hu'⟩:=hT _ _ ht'
  have hu':P.underlying t'=some .string:=hu'
  split at hs
  ·rename_i rows he hr
   cases hb:bytesB rows with
   | false=>simp[hb] at hs
   | true=>
    simp only[hb,cond_true,Option.some.injEq] at hs
    subst hs
    have hue:P.underlying e=some (.int .u8):=by
     unfold isU8 at he
     split at he
     ·rename_i hte
      obtain⟨_,_,_,_,_,_,_,_,_,hue⟩:=hT _ _ hte
      exact hue
     cases he
    obtain⟨hfl,hlen⟩:=bytesB_flat hb
    rcases rowsOf_rel h ex hr with ⟨hv,hr0⟩ | ⟨ad,cap,vs,hv,hcell,hrel⟩
    ·have hc:=run_convert_bytes_nil (P:=P) w t e hu hue 0 0 t' hu'
     refine h.value (v:=.string (strOfNums (nums rows))) ?_ (.leaf _ _ rfl (.str _ _))
     subst hr0
     have:strOfNums (nums [])=ByteArray.empty:=rfl
     rw[this]
     simp[execOp,ho,hv,hc]
    have hvs:vs=(nums rows).map (Value.int .u8):=by
     rw[hfl] at hrel
     rcases hrel with ⟨F,hR⟩ | hR
     ·exact relL_u8 hR
     ·exact relSL_u8 hR
    have hl:(loadCells ad rows.length).run P w=.ok ((nums rows).map (Value.int .u8)).toArray w:=by
     have:=run_loadCells_list (P:=P) w ad vs hcell
     rw[hvs] at this
     simpa [hlen] using this
    have hc:(convert t t' (.slice (some ad) rows.length cap)).run P w=.ok (.string (strOfNums (nums rows))) w:=by
     rw[run_convert_bytes_string w t t' e (some ad) rows.length cap hu hue hu',run_bytesToString w ad rows.length cap (nums rows) hl,foldl_push_bytes]
     simp[strOfNums,ByteArray.empty,ByteArray.emptyWithCapacity]
     rfl
    exact h.value (by simp[execOp,ho,hv,hc]) (.leaf _ _ rfl (.str _ _))
  cases hs
 cases hs
theorem goes_index (hT:TyOk P T)(h:Sim B W0 I0 I val fs σ a w){t:TypeId}{x ix:Operand}(ho:o.op=.index t x ix)(hs:stIndex T σ o.dst t (σ.get x) (σ.get ix)=some σ'):Goes P B W0 I0 o a w σ':=by
 have ex:=h.eval x
 have ey:=h.eval ix
 unfold stIndex at hs
 split at hs
 ·rename_i sz0 by0 z0 s k i ht hx hi
  rw[hx] at ex
  rw[hi] at ey
  have ex:=rel_str ex
  have ey:=rel_int ey
  obtain⟨_,_,_,_,_,_,_,_,_,hu⟩:=hT _ _ ht
  have hu:P.underlying t=some .string:=hu
  split at hs
  ·rename_i hb
   simp only[Bool.and_eq_true,decide_eq_true_eq] at hb
   simp only[Option.some.injEq] at hs
   subst hs
   have hlt:i.toNat < s.size:=by omega
   have hr:=run_index_string (P:=P) (w:=w) t s k i hu
   rw[dif_pos hb] at hr
   have hv:byteAt s i=((s[i.toNat]'hlt).toNat:Int):=by simp only[byteAt,ByteArray.getElem?_lt' s _ hlt]
   rw[hv]
   exact h.value (by simp[execOp,ho,ex,ey,hr]) (.leaf _ _ rfl (.int _ _ _))
  cases hs
 cases hs
theorem aopQ_sound (hT:TyOk P T)(h:Sim B W0 I0 I val fs σ a w){K:St→Prop}{next:Act→World→Prop}{Q:Exit→Act→World→Prop}
  (hk:∀ σ' a' w',SimE B W0 I0 σ' a' w'→K σ'→next a' w') (ha:aopQ T o K σ):o.wp P a w next Q:=by
 obtain⟨op,t,x,y,t',e,sz0,by0,z0,rows,ho,ht,hy,hr,hK⟩:=ha
 obtain⟨_,_,_,_,_,_,_,_,_,hu⟩:=hT _ _ ht
 have hu:P.underlying t=some (.slice e):=hu
 have ex:=h.eval x
 have ey:=h.eval y
 rw[hy] at ey
 have hyv:a.eval y=.slice none 0 0:=by
  generalize a.eval y=v at ey
  cases ey with
  | leaf c v hl h=>cases h;rfl
 obtain⟨ad,n,cap,hv,hnil⟩:∃ ad n cap,a.eval x=.slice ad n cap∧(ad=none→rows=[]):=by
  rcases rowsOf_rel h ex hr with ⟨hv,hr0⟩ | ⟨ad,cap,vs,hv,_⟩
  ·exact⟨none,0,0,hv,fun _=>hr0⟩
  exact⟨some ad,_,cap,hv,fun h=>by cases h⟩
 have hg:∀ op',(eqGuard op' t x y (.slice ad n cap) (.slice none 0 0)).run P w=.ok () w:=by
  intro op'
  unfold eqGuard
  split<;>simp
 rcases hK with ⟨rfl,hK⟩ | ⟨rfl,hK⟩
 ·have hb:(Go.binOp .eql t (.slice ad n cap) (.slice none 0 0)).run P w=.ok (.bool ad.isNone) w:=by
   simp[Go.binOp,run_equal_slice_nil w t e ad n cap hu]
  refine Goes.wp (h.value (v:=.bool ad.isNone) ?_ (.leaf _ _ rfl (.bool _ _))) fun a' w' hS=>hk _ _ _ hS (hK ad.isNone fun hn=>hnil (by simpa using hn))
  simp only[execOp,ho,hv,hyv,Sem.run_bind,hg,Result.andThen_ok,hb,Sem.run_pure]
 have hb:=run_neq_slice_nil (P:=P) w t e ad n cap hu
 refine Goes.wp (h.value (v:=.bool (!ad.isNone)) ?_ (.leaf _ _ rfl (.bool _ _))) fun a' w' hS=>hk _ _ _ hS (hK (!ad.isNone) fun hn=>hnil (by simpa using hn))
 simp only[execOp,ho,hv,hyv,Sem.run_bind,hg,Result.andThen_ok,hb,Sem.run_pure]
end
end Go.Av
namespace Go.Av
open Go Go.RowKit
set_option linter.unusedVariables false
set_option linter.unusedSimpArgs false
section
variable {P : Program} {T : Tys} {B : Ft} {W0 : World} {I0 : Ft} {I : Ft} {val : Nat → Value} {fs : Nat → Ft} {σ σ' : St} {a : Act} {w w' : World} {o : Oper}
theorem step_sound (hT:TyOk P T)(h:Sim B W0 I0 I val fs σ a w)(hs:step T σ o=some σ'):Goes P B W0 I0 o a w σ':=by
 unfold step at hs
 split at hs
 ·rename_i x ho
  simp only[Option.some.injEq] at hs;subst hs
  exact goes_move h (.inl ho)
 ·rename_i x ho
  simp only[Option.some.injEq] at hs;subst hs
  exact goes_move h (.inr ho)
 ·rename_i c x y ho
  split at hs
  ·rename_i t hc
   simp only[Option.some.injEq] at hs;subst hs
   exact goes_pick h ho hc
  cases hs
 ·rename_i op t x y t' ho
  split at hs
  ·rename_i v hv
   simp only[Option.some.injEq] at hs;subst hs
   exact goes_binOpT hT h ho hv
  cases hs
 ·rename_i t0 x ho
  split at hs
  ·rename_i t hx
   simp only[Option.some.injEq] at hs;subst hs
   exact goes_not h ho hx
  cases hs
 ·rename_i t x ho;exact goes_box h ho hs
 ·rename_i t ho;exact goes_alloc hT h ho hs
 ·rename_i t x ho;exact goes_load hT h ho hs
 ·rename_i t x f ho;exact goes_fieldAddr hT h ho hs
 ·rename_i t x ix ho;exact goes_indexAddr hT h ho hs
 ·rename_i t x y ho
  split at hs
  ·rename_i hd;exact goes_store hT h ho hd hs
  cases hs
 ·rename_i t len ps ho;exact goes_buildSlice hT h ho hs
 ·rename_i t x lo hi ho;exact goes_slice hT h ho hs
 ·rename_i t x lo hi mx ho;exact goes_slice3 hT h ho hs
 ·rename_i t ps ho;exact goes_build hT h ho hs
 ·rename_i t l c ho;exact goes_makeSlice hT h ho hs
 ·rename_i t t' x ho;exact goes_conv hT h ho hs
 ·rename_i t x ix ho;exact goes_index hT h ho hs
 ·rename_i x n ho
  split at hs
  ·rename_i vs hx
   cases hn:nlt n vs.length with
   | false=>simp[hn] at hs
   | true=>
    simp only[hn,cond_true,Option.some.injEq] at hs;subst hs
    exact goes_extract h ho hx (nlt_lt hn)
  cases hs
 ·rename_i x ho
  split at hs
  ·rename_i d i j hx
   simp only[Option.some.injEq] at hs;subst hs
   exact goes_nilCheck h ho hx (.inl ⟨d,i,j,rfl⟩)
  ·rename_i cs hx
   simp only[Option.some.injEq] at hs;subst hs
   exact goes_nilCheck h ho hx (.inr ⟨cs,rfl⟩)
  cases hs
 ·rename_i f first caps ho
  split at hs
  ·rename_i hf
   simp only[Option.some.injEq] at hs;subst hs
   exact goes_makeFunc h ho hf
  cases hs
 ·rename_i c ho
  obtain⟨callee,args,types⟩:=c
  simp only at hs
  split at hs
  ·rename_i x t hargs hty
   have h1:args=#[x]:=by apply Array.ext';simpa using hargs
   have h2:types=#[t]:=by apply Array.ext';simpa using hty
   subst h1;subst h2
   exact goes_len hT h ho hs
  ·rename_i x y t t' hargs hty
   have h1:args=#[x,y]:=by apply Array.ext';simpa using hargs
   have h2:types=#[t,t']:=by apply Array.ext';simpa using hty
   subst h1;subst h2
   cases hb:nq t t' with
   | false=>simp[hb] at hs
   | true=>
    simp only[hb,cond_true] at hs
    have hb:=nq_eq hb
    subst hb
    exact goes_append hT h ho hs
  cases hs
 cases hs
theorem viewC_rel {bl:List (Nat × Blk)}(hblk:∀ d b,blk bl d=some b→BlkR w I val bl b (val d) (fs d)){J:Ft}(hIJ:∀ x,I x→J x)(hfJ:∀ d b,blk bl d=some b→∀ x,fs d x→J x)
  {c:PV} {v:Value} (hc:RelS w I val bl c v) (h1:v.oneCell'=true):RelV w J (viewC bl c) v none':=by
 cases hc with
 | leaf c v hl h=>
  have hv:viewC bl c=c:=by cases c<;>first | rfl | simp[leafB] at hl
  rw[hv]
  exact h.frame (SameOn.refl _ _) hIJ (SameOn.refl _ _)
 | own d b hb hk=>
  simp only[viewC]
  split
  ·rename_i sz rows hb'
   rw[hb] at hb'
   cases hb'
   obtain⟨e,xs,G,hu,how,hR,hG,hob⟩:=hblk d _ hb
   have:=RelV.erase (J:=J) hIJ (RelV.ow (w:=w) (I:=I) sz rows (val d) e xs (fs d) G hu how hR hG hob) (hfJ d _ hb)
   simpa [Av.erase] using this
  exact .bad _ _ h1
 | pt d i j b g hb hg=>exact .bad _ _ rfl
 | rd cs a vs hI hs hcell hr=>exact .bad _ _ rfl
 | agg cs vs h=>cases h1
 | tup cs vs h=>cases h1
 | fn f cs vs h=>exact .bad _ _ rfl
 | bad v=>exact .bad _ _ h1
theorem viewL_rel {bl:List (Nat × Blk)}(hblk:∀ d b,blk bl d=some b→BlkR w I val bl b (val d) (fs d)){J:Ft}(hIJ:∀ x,I x→J x)(hfJ:∀ d b,blk bl d=some b→∀ x,fs d x→J x):
  ∀{l:List PV} {vs:List Value},RelSL w I val bl l vs→(∀ v∈vs,v.oneCell'=true)→RelL w J (viewL bl l) vs none'
 | _,_,.nil,_=>.nil _
 | _,_,.cons c l v vs h t,h1=>.cons _ _ _ _ none' none' _ (viewC_rel hblk hIJ hfJ h (h1 v (by simp))) (viewL_rel hblk hIJ hfJ t (fun u hu=>h1 u (by simp[hu]))) (fun _ h=>h) (fun _ h=>h) (fun _ h=>h.elim)
theorem viewL_erase {bl:List (Nat × Blk)}{J:Ft}:∀{l:List PV} {vs:List Value} {F:Ft},RelL w J (eraseL l) vs F→RelL w J (viewL bl l) vs none'
 | [],_,_,.nil _=>.nil _
 | c::l,_,_,.cons _ _ v vs F G H h t hF hG d=>by
  refine .cons _ _ v vs none' none' _ ?_ (viewL_erase t) (fun _ h=>h) (fun _ h=>h) (fun _ h=>h.elim)
  cases c with
  | own d=>cases h
  | pt d i j=>cases h
  | rd cs=>cases h
  | agg cs=>cases h
  | tup cs=>cases h
  | fn f cs=>cases h
  | bad=>cases h with | bad v F h1=>exact .bad _ _ h1
  | raw v=>cases h with | bad v F h1=>exact .bad _ _ h1
  | ow sz rows=>exact leaf_any (c:=.sl sz (eraseR rows)) rfl h
  | int k n=>exact leaf_any (c:=.int k n) rfl h
  | bool b=>exact leaf_any (c:=.bool b) rfl h
  | str b=>exact leaf_any (c:=.str b) rfl h
  | zc=>exact leaf_any (c:=.zc) rfl h
  | sl sz rows=>exact leaf_any (c:=.sl sz rows) rfl h
mutual
theorem RelS.view {bl:List (Nat × Blk)}(hblk:∀ d b,blk bl d=some b→BlkR w I val bl b (val d) (fs d)){J:Ft}(hIJ:∀ x,I x→J x)(hfJ:∀ d b,blk bl d=some b→∀ x,fs d x→J x){val':Nat→Value}:
    ∀{c:PV} {v:Value},RelS w I val bl c v→RelS w J val' [] (Av.view bl c) v
  | _,_,.leaf c v hl h=>by
    have hv:Av.view bl c=c:=by cases c<;>first | rfl | simp[leafB] at hl
    rw[hv]
    exact .leaf _ _ hl (h.frame (SameOn.refl _ _) hIJ (SameOn.refl _ _))
  | _,_,.own d b hb hk=>by
    simp only[Av.view]
    split
    · rename_i sz rows hb'
      rw[hb] at hb'
      cases hb'
      obtain⟨e,xs,G,hu,how,hR,hG,hob⟩:=hblk d _ hb
      have:=RelV.erase (J:=J) hIJ (RelV.ow (w:=w) (I:=I) sz rows (val d) e xs (fs d) G hu how hR hG hob) (hfJ d _ hb)
      exact .leaf _ _ rfl (by simpa [Av.erase] using this)
    · rename_i sz r hb'
      rw[hb] at hb'
      cases hb'
      obtain⟨g,hvd,h0,T',c',hfg,hh,hsl,hrl,hones⟩:=hblk d _ hb
      rw[hvd]
      have hL:=viewL_rel hblk hIJ hfJ hsl hones
      refine .leaf _ _ rfl (.sl sz [viewL bl r] ⟨g,0,none⟩ 1 c'.toList _ (fun r0 hr0=> ?_) (fun _=>hfJ d _ hb g hfg) (fun _=>rfl) (fun j u hj=> ?_) (by simpa using hL) (by simp))
      · simp at hr0;subst hr0;rw[← hrl,← hL.len,hsl.len]
      · rw[Addr.add_mid,Nat.zero_add,cell_of_row w g j c' T' (0,0) hh];simpa using hj
    · exact .bad _
  | _,_,.pt d i j b g hb hg=>by
    simp only[Av.view]
    split
    · rename_i k sz rows hb'
      rw[hb] at hb'
      cases hb'
      split
      · rename_i r hr
        have key:∃ vs,(∀(k:Nat) (u:Value),vs[k]? =some u→w.cell? ⟨g,i * sz+k,none⟩=some u)∧RelL w J (viewL bl r) vs none'∧J g:=by
          cases k with
          | var=>
            match rows,hblk d _ hb,hr with
            | [r0],hB,hr=>
              obtain⟨g',hvd,T',c',hfg,hh,hsl,hrl,hones⟩:=hB
              obtain⟨rfl,rfl⟩:=row_one hr
              rw[hvd] at hg
              simp[baseOf] at hg
              subst hg
              refine⟨c'.toList,fun k u hk=> ?_,viewL_rel hblk hIJ hfJ hsl hones,hfJ d _ hb _ hfg⟩
              rw[Nat.zero_mul,Nat.zero_add,cell_of_row w g' k c' T' (0,0) hh];simpa using hk
          | lit=>
            match rows,hblk d _ hb,hr with
            | [r0],hB,hr=>
              obtain⟨g',hvd,h0,T',c',hfg,hh,hsl,hrl,hones⟩:=hB
              obtain⟨rfl,rfl⟩:=row_one hr
              rw[hvd] at hg
              simp[baseOf] at hg
              subst hg
              refine⟨c'.toList,fun k u hk=> ?_,viewL_rel hblk hIJ hfJ hsl hones,hfJ d _ hb _ hfg⟩
              rw[Nat.zero_mul,Nat.zero_add,cell_of_row w g' k c' T' (0,0) hh];simpa using hk
          | arr=>
            obtain⟨e,xs,G,hu,how,hR,hG,hob⟩:=hblk d _ hb
            have hobg:(val d).ownBlock=some g:=by
              rcases how.2 with ⟨h1,_⟩ | ⟨g',cap,cur,h1,_⟩<;>rw[h1] at hg ⊢
              · simp[baseOf] at hg
              · simpa [baseOf,Value.ownBlock] using hg
            have hrow:=(hR.row hu hr).mono hG
            have hE:=RelL.erase (J:=J) hIJ hrow (hfJ d _ hb)
            refine⟨_,fun k u hk=> ?_,viewL_erase hE,hfJ d _ hb g (hob g hobg).1⟩
            rw[List.getElem?_take] at hk
            split at hk
            · have:=how.cells hobg (i * sz+k) u (by simpa using hk)
              rwa [Addr.add_mid,Nat.zero_add] at this
            · cases hk
        obtain⟨vs,hc,hL,hJ⟩:=key
        have hd:viewL bl (r.drop j)=(viewL bl r).drop j:=by
          clear hL hc hr
          induction j generalizing r with
          | zero=>rfl
          | succ j ih=>cases r with
            | nil=>rfl
            | cons c r=>simpa [viewL] using ih r
        rw[hd]
        refine .rd _ _ (vs.drop j) (fun _=>hJ) rfl (fun k u hk=> ?_) (hL.drop j)
        rw[Addr.add_mid,show i * sz+j+k=i * sz+(j+k) by omega]
        exact hc (j+k) u (by simpa using hk)
      · exact .bad _
    · exact .bad _
  | _,_,.rd cs a vs hb hs hc hr=>.rd cs a vs (fun h=>hIJ _ (hb h)) hs hc (RelL.frame (SameOn.refl _ _) hIJ hr (SameOn.refl _ _))
  | _,_,.agg cs vs h=>.agg _ vs (RelSL.view hblk hIJ hfJ h)
  | _,_,.tup cs vs h=>.tup _ vs (RelSL.view hblk hIJ hfJ h)
  | _,_,.fn f cs vs h=>.fn f _ vs (RelSL.view hblk hIJ hfJ h)
  | _,_,.bad v=>.bad v
theorem RelSL.view {bl:List (Nat × Blk)}(hblk:∀ d b,blk bl d=some b→BlkR w I val bl b (val d) (fs d)){J:Ft}(hIJ:∀ x,I x→J x)(hfJ:∀ d b,blk bl d=some b→∀ x,fs d x→J x){val':Nat→Value}:
  ∀{l:List PV} {vs:List Value},RelSL w I val bl l vs→RelSL w J val' [] (viewS bl l) vs
 | _,_,.nil=>.nil
 | _,_,.cons c l v vs h t=>.cons _ _ v vs (RelS.view hblk hIJ hfJ h) (RelSL.view hblk hIJ hfJ t)
end
inductive RelR1 (w:World)(J:Ft):PV→Value→Ft→Prop
 | one (c:PV) (v:Value) (F:Ft) (h:RelV w J c v F):RelR1 w J c v F
 | agg (cs:List PV) (vs:List Value) (F:Ft) (h:RelL w J cs vs F):RelR1 w J (.agg cs) (.agg vs.toArray) F
inductive RelT (w:World)(J:Ft):List PV→List Value→Ft→Prop
 | nil (F:Ft):RelT w J [] [] F
 | cons (c:PV) (l:List PV) (v:Value) (vs:List Value) (F G H:Ft) (h:RelR1 w J c v F) (t:RelT w J l vs G) (hF:∀ b,F b→H b) (hG:∀ b,G b→H b) (d:∀ b,F b→¬ G b):
   RelT w J (c::l) (v::vs) H
inductive RelR (w:World)(J:Ft):PV→Value→Ft→Prop
 | one (c:PV) (v:Value) (F:Ft) (h:RelR1 w J c v F):RelR w J c v F
 | tup (cs:List PV) (vs:List Value) (F:Ft) (h:RelT w J cs vs F):RelR w J (.tup cs) (.tuple vs.toArray) F
theorem freshL_append :∀(x y:List PV),freshL x→freshL y→freshL (x++y)
 | [],_,_,h=>h
 | _::x,y,h,h'=>⟨h.1,freshL_append x y h.2 h'⟩
theorem freshR_flat :∀(rows:List (List PV)),freshR rows→freshL rows.flatten
 | [],_=>trivial
 | r::rows,h=>by rw[List.flatten_cons];exact freshL_append _ _ h.1 (freshR_flat rows h.2)
mutual
theorem RelV.fresh {J J':Ft}:∀{c:PV} {v:Value} {F:Ft},RelV w J c v F→Av.fresh c→RelV w J' c v F
 | _,_,_,.int k n F,_=>.int k n F
 | _,_,_,.bool b F,_=>.bool b F
 | _,_,_,.str s F,_=>.str s F
 | _,_,_,.zc F,_=>.zc F
 | _,_,_,.raw v F h1,_=>.raw v F h1
 | _,_,_,.bad v F h1,_=>.bad v F h1
 | _,_,_,.slnil sz F,h=>h.elim
 | _,_,_,.sl sz rows a cap vs F hu hb hs hc hr hcap,h=>h.elim
 | _,_,_,.ow sz rows v e xs F G hu how hr hG hb,h=>.ow sz rows v e xs F G hu how (RelL.fresh hr (freshR_flat rows h)) hG hb
theorem RelL.fresh {J J':Ft}:∀{l:List PV} {vs:List Value} {F:Ft},RelL w J l vs F→Av.freshL l→RelL w J' l vs F
 | _,_,_,.nil F,_=>.nil F
 | _,_,_,.cons c l v vs F G H h t hF hG d,hf=>.cons c l v vs F G H (RelV.fresh h hf.1) (RelL.fresh t hf.2) hF hG d
end
theorem Sim.addI (h:Sim B W0 I0 I val fs σ a w){I':Ft}(hI:∀ x,I x→I' x)(hlt:∀ x,I' x→x < w.heap.size)(hold:∀ x,I' x→I0 x∨B x)(hd:∀ d b,blk σ.bl d=some b→∀ x,fs d x→¬ I' x):Sim B W0 I0 I' val fs σ a w:=
 {slots:=RelSL.frame (SameOn.refl _ _) hI (Ext.refl _ _) h.slots,blocks:=fun d b hb=>(h.blocks d b hb).frame (SameOn.refl _ _) hI (Ext.refl _ _) (SameOn.refl _ _),disj:=h.disj,imm:=hd,new:=h.new,lt:=hlt,old:=hold,
  below:=h.below,size:=h.size,heads:=h.heads,defers:=h.defers}
def Beside (bl bl':List (Nat × Blk))(fs fs':Nat→Ft)(F:Ft):Prop:=
 ∀ d b,blk bl' d=some b→(blk bl d=some b∧fs' d=fs d)∨(blk bl d=none∧∀ x,fs' d x→F x)
theorem blk_append (d:Nat):∀(l l':List (Nat × Blk)),blk (l++l') d=match blk l d with | some b=>some b | none=>blk l' d
 | [],l'=>rfl
 | (e,c)::l,l'=>by
  rw[List.cons_append,blk_cons,blk_cons,blk_append d l l']
  by_cases h:e=d<;>simp[h]
theorem freeB_head {d:Nat}{b:Blk}{l bl:List (Nat × Blk)}(h:freeB bl ((d,b)::l)=true):blk bl d=none∧blk l d=none∧freeB bl l=true:=by
 simp only[freeB,Bool.and_eq_true] at h
 refine⟨?_,?_,h.2⟩
 ·have:=h.1.1;cases hq:blk bl d with
  | none=>rfl
  | some q=>rw[hq] at this;cases this
 have:=h.1.2;cases hq:blk l d with
 | none=>rfl
 | some q=>rw[hq] at this;cases this
theorem bindC_rel (h:Sim B W0 I0 I val fs σ a w){id:Nat}{c:PV}{v:Value}{F:Ft}(hc:RelV w I c v F)(hF:∀ x,F x→B x∧x < w.heap.size)(hI:∀ x,F x→¬ I x)(hO:∀ x,F x→∀ e b,blk σ.bl e=some b→¬ fs e x)
    {l:List (Nat × Blk)} (hl:l=match (bindC true id c).2 with | some b=>[(id,b)] | none=>[]) (hfree:freeB σ.bl l=true):
    ∃ val' fs',Sim B W0 I0 I val' fs' {σ with bl:=l++σ.bl} a w∧RelS w I val' (l++σ.bl) (bindC true id c).1 v∧Ext σ.bl (l++σ.bl) val val'∧Beside σ.bl (l++σ.bl) fs fs' F:=by
  have none':(bindC true id c).2=none→(bindC true id c).1=c→(leafB c=true∨c=.bad)→∃ val' fs',Sim B W0 I0 I val' fs' {σ with bl:=l++σ.bl} a w∧RelS w I val' (l++σ.bl) (bindC true id c).1 v∧Ext σ.bl (l++σ.bl) val val'∧Beside σ.bl (l++σ.bl) fs fs' F:=by
    intro h2 h1 hleaf
    rw[h2] at hl
    subst hl
    refine⟨val,fs,h,?_,Ext.refl _ _,fun d b hb=>.inl ⟨hb,rfl⟩⟩
    rw[h1]
    rcases hleaf with hleaf | rfl
    · exact .leaf _ _ hleaf (leaf_any hleaf hc)
    · exact .bad _
  cases c with
  | ow sz rows=>
    simp only[bindC,cond_true] at hl ⊢
    subst hl
    obtain⟨hn,_,_⟩:=freeB_head hfree
    cases hc with
    | ow sz rows v e xs F G hu how hr hG hb=>
      refine⟨upd val id v,upd fs id F,h.newBlk hn ⟨e,xs,G,hu,how,hr,hG,hb⟩ hF hI hO,?_,ext_cons hn,fun d b hd=> ?_⟩
      · have:=RelS.own (w:=w) (I:=I) (val:=upd val id v) (bl:=(id,⟨.arr,sz,rows⟩)::σ.bl) id _ (by rw[blk_cons,if_pos rfl]) (by intro h;cases h)
        rwa [upd_same] at this
      · rw[List.cons_append,List.nil_append,blk_cons] at hd
        by_cases h0:id=d
        · subst h0;exact .inr ⟨hn,fun x hx=>by rwa [upd_same] at hx⟩
        · rw[if_neg h0] at hd;exact .inl ⟨hd,upd_ne _ _ (Ne.symm h0)⟩
  | int k n=>exact none' rfl rfl (.inl rfl)
  | bool b=>exact none' rfl rfl (.inl rfl)
  | str b=>exact none' rfl rfl (.inl rfl)
  | zc=>exact none' rfl rfl (.inl rfl)
  | sl sz rows=>exact none' rfl rfl (.inl rfl)
  | bad=>exact none' rfl rfl (.inr rfl)
  | raw u=>
    have hl':l=[]:=hl
    subst hl'
    exact⟨val,fs,h,.bad _,Ext.refl _ _,fun d b hb=>.inl ⟨hb,rfl⟩⟩
  | own d=>cases hc
  | pt d i j=>cases hc
  | rd cs=>cases hc
  | agg cs=>cases hc
  | tup cs=>cases hc
  | fn f cs=>cases hc
theorem Ext.trans {a b c:List (Nat × Blk)}{u v x:Nat→Value}(h:Ext a b u v)(h':Ext b c v x):Ext a c u x:=by
 intro d q hq
 obtain⟨⟨q',hq',h1,h2⟩,h3⟩:=h d q hq
 obtain⟨⟨q2,hq2,h4,h5⟩,h6⟩:=h' d q' hq'
 exact⟨⟨q2,hq2,h4.trans h1,h5.trans h2⟩,h6.trans h3⟩
theorem bindL_rel :∀{l:List PV} {vs:List Value} {F:Ft} {id:Nat},Sim B W0 I0 I val fs σ a w→RelL w I l vs F→(∀ x,F x→B x∧x < w.heap.size)→(∀ x,F x→¬ I x)→(∀ x,F x→∀ e b,blk σ.bl e=some b→¬ fs e x)→
    freeB σ.bl (bindL true id l).2=true→
    ∃ val' fs',Sim B W0 I0 I val' fs' {σ with bl:=(bindL true id l).2++σ.bl} a w∧RelSL w I val' ((bindL true id l).2++σ.bl) (bindL true id l).1 vs∧Ext σ.bl ((bindL true id l).2++σ.bl) val val'∧
      Beside σ.bl ((bindL true id l).2++σ.bl) fs fs' F
  | _,_,_,id,h,.nil F,_,_,_,_=>⟨val,fs,h,.nil,Ext.refl _ _,fun d b hb=>.inl ⟨hb,rfl⟩⟩
  | _,_,_,id,h,.cons c l v vs F G H hc ht hF hG hd,hlt,hI,hO,hfree=>by
    have hrest:freeB σ.bl (bindL true (id+1000) l).2=true:=by
      simp only[bindL] at hfree
      split at hfree
      · exact(freeB_head hfree).2.2
      · exact hfree
    obtain⟨val1,fs1,hS1,hR1,hE1,hB1⟩:=bindL_rel (id:=id+1000) h ht (fun x hx=>hlt x (hG x hx)) (fun x hx=>hI x (hG x hx)) (fun x hx=>hO x (hG x hx)) hrest
    have hO1:∀ x,F x→∀ e b,blk ((bindL true (id+1000) l).2++σ.bl) e=some b→¬ fs1 e x:=by
      intro x hx e b he hf
      rcases hB1 e b he with ⟨h1,h2⟩ | ⟨h1,h2⟩
      · rw[h2] at hf;exact hO x (hF x hx) e b h1 hf
      · exact hd x hx (h2 x hf)
    have hfree1:freeB ((bindL true (id+1000) l).2++σ.bl) (match (bindC true id c).2 with | some b=>[(id,b)] | none=>[])=true:=by
      simp only[bindL] at hfree
      cases hq:(bindC true id c).2 with
      | none=>rfl
      | some q=>
        rw[hq] at hfree
        obtain⟨h1,h2,_⟩:=freeB_head hfree
        simp only[freeB,Bool.and_true]
        rw[blk_append,h2,h1]
        rfl
    obtain⟨val2,fs2,hS2,hR2,hE2,hB2⟩:=bindC_rel hS1 hc (fun x hx=>hlt x (hF x hx)) (fun x hx=>hI x (hF x hx)) hO1 rfl hfree1
    have hbl:(match (bindC true id c).2 with | some b=>[(id,b)] | none=>[])++((bindL true (id+1000) l).2++σ.bl)=(bindL true id (c::l)).2++σ.bl:=by
      simp only[bindL]
      cases (bindC true id c).2<;>rfl
    rw[hbl] at hS2 hR2 hE2 hB2
    refine⟨val2,fs2,hS2,.cons _ _ _ _ hR2 (RelSL.frame (SameOn.refl _ _) (fun _ h=>h) hE2 hR1),hE1.trans hE2,fun d b hb=> ?_⟩
    rcases hB2 d b hb with ⟨h1,h2⟩ | ⟨h1,h2⟩
    · rcases hB1 d b h1 with ⟨h3,h4⟩ | ⟨h3,h4⟩
      · exact .inl ⟨h3,h2.trans h4⟩
      · exact .inr ⟨h3,fun x hx=>hG x (h4 x (by rw[h2] at hx;exact hx))⟩
    · refine .inr ⟨?_,fun x hx=>hF x (h2 x hx)⟩
      rw[blk_append] at h1
      cases hq:blk (bindL true (id+1000) l).2 d with
      | none=>rw[hq] at h1;exact h1
      | some q=>rw[hq] at h1;cases h1
end
end Go.Av

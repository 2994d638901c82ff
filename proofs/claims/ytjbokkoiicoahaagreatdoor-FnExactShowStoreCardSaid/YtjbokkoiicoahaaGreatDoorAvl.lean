/- Arrays that are lent: to a callee that writes them, or out of the cell of an array. -/
import Derived.Test.YtjbokkoiicoahaaGreatDoorAvc
namespace Go.Av
open Go Go.RowKit
set_option linter.unusedVariables false
set_option linter.unusedSimpArgs false
section
variable {P : Program} {T : Tys} {B : Ft} {W0 : World} {I0 : Ft} {I : Ft} {val : Nat → Value} {fs : Nat → Ft} {σ σ' : St} {a : Act} {w w' : World} {o : Oper}
theorem freeB_append :∀{x y bl:List (Nat × Blk)},freeB bl (x++y)=true→freeB bl y=true∧freeB (y++bl) x=true
 | [],y,bl,h=>⟨h,rfl⟩
 | (d,b)::x,y,bl,h=>by
  rw[List.cons_append] at h
  obtain⟨h1,h2,h3⟩:=freeB_head h
  obtain⟨h4,h5⟩:=freeB_append h3
  refine⟨h4,?_⟩
  rw[blk_append] at h2
  have hx:blk x d=none:=by cases hq:blk x d with | none=>rfl | some q=>rw[hq] at h2;cases h2
  rw[hx] at h2
  have hy:blk y d=none:=h2
  simp only[freeB,h5,hx,Bool.and_true]
  rw[blk_append,hy,h1]
theorem bindV_one {own:Bool}{id:Nat}{c:PV}(h:∀ cs,c≠ .agg cs):bindV own id c=((bindC own id c).1,match (bindC own id c).2 with | some b=>[(id,b)] | none=>[]):=by
 cases c<;>first | rfl | exact absurd rfl (h _)
theorem bindV_rel (h:Sim B W0 I0 I val fs σ a w){id:Nat}{c:PV}{v:Value}{F:Ft}(hc:RelR1 w I c v F)(hF:∀ x,F x→B x∧x < w.heap.size)(hI:∀ x,F x→¬ I x)(hO:∀ x,F x→∀ e b,blk σ.bl e=some b→¬ fs e x)
  (hfree:freeB σ.bl (bindV true id c).2=true):
  ∃ val' fs',Sim B W0 I0 I val' fs' {σ with bl:=(bindV true id c).2++σ.bl} a w∧RelS w I val' ((bindV true id c).2++σ.bl) (bindV true id c).1 v∧Ext σ.bl ((bindV true id c).2++σ.bl) val val'∧
   Beside σ.bl ((bindV true id c).2++σ.bl) fs fs' F:=by
 cases hc with
 | one c v F hv=>
  have hne:∀ cs,c≠ .agg cs:=by rintro cs rfl;cases hv
  rw[bindV_one hne] at hfree ⊢
  exact bindC_rel h hv hF hI hO rfl hfree
 | agg cs vs F hl=>
  obtain⟨val',fs',h1,h2,h3,h4⟩:=bindL_rel h hl hF hI hO hfree
  exact⟨val',fs',h1,.agg _ _ h2,h3,h4⟩
theorem bindT_rel :∀{l:List PV} {vs:List Value} {F:Ft} {id:Nat},Sim B W0 I0 I val fs σ a w→RelT w I l vs F→(∀ x,F x→B x∧x < w.heap.size)→(∀ x,F x→¬ I x)→(∀ x,F x→∀ e b,blk σ.bl e=some b→¬ fs e x)→
    freeB σ.bl (bindT true id l).2=true→
    ∃ val' fs',Sim B W0 I0 I val' fs' {σ with bl:=(bindT true id l).2++σ.bl} a w∧RelSL w I val' ((bindT true id l).2++σ.bl) (bindT true id l).1 vs∧Ext σ.bl ((bindT true id l).2++σ.bl) val val'∧
      Beside σ.bl ((bindT true id l).2++σ.bl) fs fs' F
  | _,_,_,id,h,.nil F,_,_,_,_=>⟨val,fs,h,.nil,Ext.refl _ _,fun d b hb=>.inl ⟨hb,rfl⟩⟩
  | _,_,_,id,h,.cons c l v vs F G H hc ht hF hG hd,hlt,hI,hO,hfree=>by
    obtain⟨hrest,hfree1⟩:=freeB_append (x:=(bindV true id c).2) (y:=(bindT true (id+100000) l).2) hfree
    obtain⟨val1,fs1,hS1,hR1,hE1,hB1⟩:=bindT_rel (id:=id+100000) h ht (fun x hx=>hlt x (hG x hx)) (fun x hx=>hI x (hG x hx)) (fun x hx=>hO x (hG x hx)) hrest
    have hO1:∀ x,F x→∀ e b,blk ((bindT true (id+100000) l).2++σ.bl) e=some b→¬ fs1 e x:=by
      intro x hx e b he hf
      rcases hB1 e b he with ⟨h1,h2⟩ | ⟨h1,h2⟩
      · rw[h2] at hf;exact hO x (hF x hx) e b h1 hf
      · exact hd x hx (h2 x hf)
    obtain⟨val2,fs2,hS2,hR2,hE2,hB2⟩:=bindV_rel hS1 hc (fun x hx=>hlt x (hF x hx)) (fun x hx=>hI x (hF x hx)) hO1 hfree1
    have hbl:(bindV true id c).2++((bindT true (id+100000) l).2++σ.bl)=(bindT true id (c::l)).2++σ.bl:=by simp only[bindT,List.append_assoc]
    rw[hbl] at hS2 hR2 hE2 hB2
    refine⟨val2,fs2,hS2,.cons _ _ _ _ hR2 (RelSL.frame (SameOn.refl _ _) (fun _ h=>h) hE2 hR1),hE1.trans hE2,fun d b hb=> ?_⟩
    rcases hB2 d b hb with ⟨h1,h2⟩ | ⟨h1,h2⟩
    · rcases hB1 d b h1 with ⟨h3,h4⟩ | ⟨h3,h4⟩
      · exact .inl ⟨h3,h2.trans h4⟩
      · exact .inr ⟨h3,fun x hx=>hG x (h4 x (by rw[h2] at hx;exact hx))⟩
    · refine .inr ⟨?_,fun x hx=>hF x (h2 x hx)⟩
      rw[blk_append] at h1
      cases hq:blk (bindT true (id+100000) l).2 d with
      | none=>rw[hq] at h1;exact h1
      | some q=>rw[hq] at h1;cases h1
theorem bindR_rel (h:Sim B W0 I0 I val fs σ a w){id:Nat}{c:PV}{v:Value}{F:Ft}(hc:RelR w I c v F)(hF:∀ x,F x→B x∧x < w.heap.size)(hI:∀ x,F x→¬ I x)(hO:∀ x,F x→∀ e b,blk σ.bl e=some b→¬ fs e x)
  (hfree:freeB σ.bl (bindR true id c).2=true):
  ∃ val' fs',Sim B W0 I0 I val' fs' {σ with bl:=(bindR true id c).2++σ.bl} a w∧RelS w I val' ((bindR true id c).2++σ.bl) (bindR true id c).1 v:=by
 cases hc with
 | one c v F hv=>
  have hne:bindR true id c=bindV true id c:=by
   cases c with
   | tup vs=>cases hv with | one _ _ _ hv=>cases hv
   | _=>rfl
  rw[hne] at hfree ⊢
  obtain⟨val',fs',h1,h2,_,_⟩:=bindV_rel h hv hF hI hO hfree
  exact⟨val',fs',h1,h2⟩
 | tup cs vs F hl=>
  obtain⟨val',fs',h1,h2,h3,h4⟩:=bindT_rel h hl hF hI hO hfree
  exact⟨val',fs',h1,.tup _ _ h2⟩
end
end Go.Av
namespace Go.Av
open Go Go.RowKit
set_option linter.unusedVariables false
set_option linter.unusedSimpArgs false
theorem memN_mem {d:Nat}:∀{l:List Nat},memN d l=false→d ∉ l
 | [],_=>by simp
 | e::l,h=>by
  simp only[memN,Bool.or_eq_false_iff] at h
  intro hm
  rcases List.mem_cons.1 hm with rfl | hm
  ·rw [beq_true] at h;cases h.1
  exact memN_mem h.2 hm
theorem nodupB_ok :∀{l:List Nat},nodupB l=true→l.Nodup
 | [],_=>by simp
 | d::l,h=>by
  simp only[nodupB,Bool.and_eq_true,Bool.not_eq_true'] at h
  exact List.nodup_cons.2 ⟨memN_mem h.1,nodupB_ok h.2⟩
section
variable {P : Program} {T : Tys} {B : Ft} {W0 : World} {I0 : Ft} {I : Ft} {val : Nat → Value} {fs : Nat → Ft} {σ σ' : St} {a : Act} {w w' : World} {o : Oper}
def Of (fs:Nat→Ft)(ds:List Nat):Ft:=fun x=>∃ d∈ds,fs d x
theorem Of.disj (h:Sim B W0 I0 I val fs σ a w){a1 b1:List Nat}(hn:(a1++b1).Nodup)(ha:∀ d∈a1++b1,∃ b,blk σ.bl d=some b):∀ x,Of fs a1 x→¬ Of fs b1 x:=by
 rintro x ⟨d,hd,hx⟩ ⟨e,he,hy⟩
 have hne:d≠e:=fun h0=>(List.nodup_append.1 hn).2.2 d hd e he h0
 obtain⟨b,hb⟩:=ha d (by simp[hd])
 obtain⟨b',hb'⟩:=ha e (by simp[he])
 exact h.disj d e b b' hb hb' hne x hx hy
theorem lend1_rel (h:Sim B W0 I0 I val fs σ a w){c c':PV}{v:Value}(hc:RelS w I val σ.bl c v)(hl:lend1 σ.bl c=some c'):
  RelV w I c' v (Of fs (owns1 c))∧∀ d∈owns1 c,∃ b,blk σ.bl d=some b:=by
 cases hc with
 | leaf c v hlf hv=>
  have e:lend1 σ.bl c=some c:=by cases c<;>simp[leafB] at hlf<;>rfl
  have e2:owns1 c=[]:=by cases c<;>simp[leafB] at hlf<;>rfl
  rw[e] at hl
  cases hl
  exact⟨leaf_any hlf hv,fun d hd=>by rw[e2] at hd;simp at hd⟩
 | own d b hb hk=>
  simp only[lend1,hb] at hl
  split at hl
  ·rename_i sz rows hq
   cases hq
   cases hl
   obtain⟨e,xs,G,hu,how,hr,hG,hb'⟩:=h.blocks d _ hb
   refine⟨(RelV.ow sz rows (val d) e xs (fs d) G hu how hr hG hb').mono fun x hx=>⟨d,by simp[owns1],hx⟩,fun e he=> ?_⟩
   simp only[owns1,List.mem_singleton] at he
   subst he
   exact⟨_,hb⟩
  cases hl
 | pt d i j b g hb hg=>simp[lend1,leafB] at hl
 | rd cs a vs hI hs hcell hr=>simp[lend1,leafB] at hl
 | agg cs vs h=>simp[lend1,leafB] at hl
 | tup cs vs h=>simp[lend1,leafB] at hl
 | fn f cs vs h=>simp[lend1,leafB] at hl
 | bad v=>simp[lend1,leafB] at hl
theorem Of.left {fs:Nat→Ft}{a b:List Nat}{x:Nat}(h:Of fs a x):Of fs (a++b) x:=by obtain⟨d,hd,hx⟩:=h;exact⟨d,by simp[hd],hx⟩
theorem Of.right {fs:Nat→Ft}{a b:List Nat}{x:Nat}(h:Of fs b x):Of fs (a++b) x:=by obtain⟨d,hd,hx⟩:=h;exact⟨d,by simp[hd],hx⟩
theorem lendL_rel (h:Sim B W0 I0 I val fs σ a w):∀{l l':List PV} {vs:List Value},RelSL w I val σ.bl l vs→lendL σ.bl l=some l'→(ownsL l).Nodup→RelL w I l' vs (Of fs (ownsL l))∧∀ d∈ownsL l,∃ b,blk σ.bl d=some b
 | _,_,_,.nil,hl,_=>by
  simp only[lendL,Option.some.injEq] at hl;subst hl
  exact⟨.nil _,fun d hd=>by simp[ownsL] at hd⟩
 | _,_,_,.cons c l v vs hc t,hl,hn=>by
  simp only[lendL] at hl
  split at hl
  ·rename_i c' l2 h1 h2
   cases hl
   obtain⟨r1,b1⟩:=lend1_rel h hc h1
   have hn2:=(List.nodup_append.1 hn).2.1
   obtain⟨r2,b2⟩:=lendL_rel h t h2 hn2
   have hb:∀ d∈owns1 c++ownsL l,∃ b,blk σ.bl d=some b:=fun d hd=>(List.mem_append.1 hd).elim (b1 d) (b2 d)
   exact⟨.cons _ _ _ _ _ _ _ r1 r2 (fun x hx=>hx.left) (fun x hx=>hx.right) (Of.disj h hn hb),hb⟩
  cases hl
theorem lendV_rel (h:Sim B W0 I0 I val fs σ a w){c c':PV}{v:Value}(hc:RelS w I val σ.bl c v)(hl:lendV σ.bl c=some c')(hn:(ownsV c).Nodup):
  RelR1 w I c' v (Of fs (ownsV c))∧∀ d∈ownsV c,∃ b,blk σ.bl d=some b:=by
 by_cases hagg:∃ cs,c=.agg cs
 ·obtain⟨cs,rfl⟩:=hagg
  simp only[lendV] at hl
  split at hl
  ·rename_i cs' h1
   cases hl
   cases hc with
   | leaf c v hlf hv=>cases hlf
   | agg cs vs hs=>
    obtain⟨r1,b1⟩:=lendL_rel h hs h1 hn
    exact⟨.agg _ _ _ r1,b1⟩
  cases hl
 have e1:lendV σ.bl c=lend1 σ.bl c:=by cases c<;>first | rfl | exact absurd ⟨_,rfl⟩ hagg
 have e2:ownsV c=owns1 c:=by cases c<;>first | rfl | exact absurd ⟨_,rfl⟩ hagg
 rw[e1] at hl
 rw[e2]
 obtain⟨r1,b1⟩:=lend1_rel h hc hl
 exact⟨.one _ _ _ r1,b1⟩
theorem lendS_rel (h:Sim B W0 I0 I val fs σ a w):∀{l l':List PV} {vs:List Value},RelSL w I val σ.bl l vs→lendS σ.bl l=some l'→(ownsS l).Nodup→RelT w I l' vs (Of fs (ownsS l))∧∀ d∈ownsS l,∃ b,blk σ.bl d=some b
 | _,_,_,.nil,hl,_=>by
  simp only[lendS,Option.some.injEq] at hl;subst hl
  exact⟨.nil _,fun d hd=>by simp[ownsS] at hd⟩
 | _,_,_,.cons c l v vs hc t,hl,hn=>by
  simp only[lendS] at hl
  split at hl
  ·rename_i c' l2 h1 h2
   cases hl
   obtain⟨r1,b1⟩:=lendV_rel h hc h1 (List.nodup_append.1 hn).1
   obtain⟨r2,b2⟩:=lendS_rel h t h2 (List.nodup_append.1 hn).2.1
   have hb:∀ d∈ownsV c++ownsS l,∃ b,blk σ.bl d=some b:=fun d hd=>(List.mem_append.1 hd).elim (b1 d) (b2 d)
   exact⟨.cons _ _ _ _ _ _ _ r1 r2 (fun x hx=>hx.left) (fun x hx=>hx.right) (Of.disj h hn hb),hb⟩
  cases hl
def BackOk (w:World)(J:Ft)(val:Nat→Value)(bl bl':List (Nat × Blk))(ds:List Nat)(F:Ft):Prop:=
 ∃ fn:Nat→Ft,(∀ d,d ∉ ds→blk bl' d=blk bl d)∧(∀ d∈ds,∃ sz rows rows',blk bl d=some ⟨.arr,sz,rows⟩∧blk bl' d=some ⟨.arr,sz,rows'⟩∧ArrR w J sz rows' (val d) (fn d)∧∀ x,fn d x→F x)∧
  ∀ d∈ds,∀ d'∈ds,d≠d'→∀ x,fn d x→¬ fn d' x
theorem BackOk.nil {J:Ft}{bl:List (Nat × Blk)}{F:Ft}:BackOk w J val bl bl [] F:=⟨fun _=>none',fun _ _=>rfl,fun d hd=>by simp at hd,fun d hd=>by simp at hd⟩
theorem BackOk.cons {J:Ft}{bl bl1 bl2:List (Nat × Blk)}{d1 d2:List Nat}{F G H:Ft}(h1:BackOk w J val bl bl1 d1 F)(h2:BackOk w J val bl1 bl2 d2 G)(hn:(d1++d2).Nodup)(hdj:∀ x,F x→¬ G x)
  (hF:∀ x,F x→H x) (hG:∀ x,G x→H x):BackOk w J val bl bl2 (d1++d2) H:=by
 obtain⟨f1,a1,b1,c1⟩:=h1
 obtain⟨f2,a2,b2,c2⟩:=h2
 have hno:∀ d∈d1,d ∉ d2:=fun d hd hd'=>(List.nodup_append.1 hn).2.2 d hd d hd' rfl
 have e1:∀ d∈d1,(if d∈d1 then f1 d else f2 d)=f1 d:=fun d h=>if_pos h
 have e2:∀ d∈d2,(if d∈d1 then f1 d else f2 d)=f2 d:=fun d h=>if_neg fun h'=>hno d h' h
 refine⟨fun d=>if d∈d1 then f1 d else f2 d,fun d hd=> ?_,fun d hd=> ?_,fun d hd d' hd' hne x hx hx'=> ?_⟩
 ·simp only[List.mem_append,not_or] at hd
  rw[a2 d hd.2,a1 d hd.1]
 ·rcases List.mem_append.1 hd with h | h
  ·obtain⟨sz,rows,rows',q1,q2,q3,q4⟩:=b1 d h
   simp only[e1 d h]
   exact⟨sz,rows,rows',q1,by rw[a2 d (hno d h)];exact q2,q3,fun x hx=>hF x (q4 x hx)⟩
  obtain⟨sz,rows,rows',q1,q2,q3,q4⟩:=b2 d h
  simp only[e2 d h]
  exact⟨sz,rows,rows',by rw[← a1 d (fun h'=>hno d h' h)];exact q1,q2,q3,fun x hx=>hG x (q4 x hx)⟩
 rcases List.mem_append.1 hd with h | h<;>rcases List.mem_append.1 hd' with h' | h'
 ·simp only[e1 d h] at hx
  simp only[e1 d' h'] at hx'
  exact c1 d h d' h' hne x hx hx'
 ·simp only[e1 d h] at hx
  simp only[e2 d' h'] at hx'
  obtain⟨_,_,_,_,_,_,q⟩:=b1 d h
  obtain⟨_,_,_,_,_,_,q'⟩:=b2 d' h'
  exact hdj x (q x hx) (q' x hx')
 ·simp only[e2 d h] at hx
  simp only[e1 d' h'] at hx'
  obtain⟨_,_,_,_,_,_,q⟩:=b2 d h
  obtain⟨_,_,_,_,_,_,q'⟩:=b1 d' h'
  exact hdj x (q' x hx') (q x hx)
 simp only[e2 d h] at hx
 simp only[e2 d' h'] at hx'
 exact c2 d h d' h' hne x hx hx'
theorem back1_rel {J:Ft}{bl0 bl bl':List (Nat × Blk)}{c c':PV}{v:Value}{F:Ft}(hc:RelS w I val bl0 c v)(hb:back1 bl c c'=some bl')(hv:RelV w' J c' v F):BackOk w' J val bl bl' (owns1 c) F:=by
 by_cases hown:∃ d,c=.own d
 ·obtain⟨d,rfl⟩:=hown
  have hvd:v=val d:=by cases hc with
   | leaf c v hl h=>cases hl
   | own d b hb hk=>rfl
  subst hvd
  unfold back1 at hb
  split at hb
  ·rename_i d0 sz rows hq
   cases hq
   split at hb
   ·rename_i sz' rows0 hblk
    cases hz:nq sz' sz with
    | false=>simp[hz] at hb
    | true=>
     have hz':=nq_eq hz
     subst hz'
     simp only[hz,cond_true,Option.some.injEq] at hb
     subst hb
     cases hv with
     | ow sz rows v e xs F G hu how hr hG hob=>
      refine⟨fun _=>F,fun e he=> ?_,fun e he=> ?_,fun e he e' he' hne=> ?_⟩
      ·rw [blk_setB,if_neg (fun h0=>he (by simp[owns1,h0]))]
      ·simp only[owns1,List.mem_singleton] at he
       subst he
       exact⟨_,_,rows,hblk,by rw[blk_setB,if_pos rfl],⟨_,xs,G,hu,how,hr,hG,hob⟩,fun _ h=>h⟩
      simp only[owns1,List.mem_singleton] at he he'
      exact absurd (he.trans he'.symm) hne
   cases hb
  ·cases hb
  rename_i h1 h2
  exact(h1 d rfl).elim
 have e1:back1 bl c c'=some bl:=by cases c<;>first | rfl | exact absurd ⟨_,rfl⟩ hown
 have e2:owns1 c=[]:=by cases c<;>first | rfl | exact absurd ⟨_,rfl⟩ hown
 rw[e1] at hb
 cases hb
 rw[e2]
 exact .nil
theorem backL_rel {J:Ft}{bl0:List (Nat × Blk)}:∀{l l':List PV} {vs:List Value} {F:Ft} {bl bl':List (Nat × Blk)},RelSL w I val bl0 l vs→backL bl l l'=some bl'→RelL w' J l' vs F→(ownsL l).Nodup→BackOk w' J val bl bl' (ownsL l) F
 | _,[],_,_,_,_,.nil,hb,_,_=>by simp only[backL,Option.some.injEq] at hb;subst hb;exact .nil
 | _,c'::l',_,_,_,_,.nil,hb,_,_=>by simp[backL] at hb
 | _,[],_,_,_,_,.cons c l v vs hc t,hb,_,_=>by simp[backL] at hb
 | _,c'::l',_,_,_,_,.cons c l v vs hc t,hb,.cons _ _ _ _ F G H h1 h2 hF hG hd,hn=>by
  simp only[backL] at hb
  split at hb
  ·rename_i bl1 hb1
   exact(back1_rel hc hb1 h1).cons (backL_rel t hb h2 (List.nodup_append.1 hn).2.1) hn hd hF hG
  cases hb
theorem backV_rel {J:Ft}{bl0 bl bl':List (Nat × Blk)}{c c':PV}{v:Value}{F:Ft}(hc:RelS w I val bl0 c v)(hb:backV bl c c'=some bl')(hv:RelR1 w' J c' v F)(hn:(ownsV c).Nodup):BackOk w' J val bl bl' (ownsV c) F:=by
 by_cases hagg:∃ cs,c=.agg cs
 ·obtain⟨cs,rfl⟩:=hagg
  unfold backV at hb
  split at hb
  ·rename_i cs0 cs' hq
   cases hq
   cases hc with
   | leaf c v hlf hv=>cases hlf
   | agg cs vs hs=>
    cases hv with
    | one _ _ _ h=>cases h
    | agg _ _ _ h=>exact backL_rel hs hb (by simpa using h) hn
  ·cases hb
  rename_i h1 h2
  exact(h1 cs rfl).elim
 have e1:backV bl c c'=back1 bl c c':=by cases c<;>first | rfl | exact absurd ⟨_,rfl⟩ hagg
 have e2:ownsV c=owns1 c:=by cases c<;>first | rfl | exact absurd ⟨_,rfl⟩ hagg
 rw[e1] at hb
 rw[e2]
 cases hv with
 | one _ _ _ h=>exact back1_rel hc hb h
 | agg cs vs F h=>
  have e3:owns1 c=[]:=by
   cases c with
   | own d=>unfold back1 at hb;cases hb
   | _=>rfl
  have e4:bl'=bl:=by
   cases c with
   | own d=>unfold back1 at hb;cases hb
   | _=>unfold back1 at hb;simpa using hb.symm
  rw[e3,e4]
  exact .nil
theorem backS_rel {J:Ft}{bl0:List (Nat × Blk)}:∀{l l':List PV} {vs:List Value} {F:Ft} {bl bl':List (Nat × Blk)},RelSL w I val bl0 l vs→backS bl l l'=some bl'→RelT w' J l' vs F→(ownsS l).Nodup→BackOk w' J val bl bl' (ownsS l) F
 | _,[],_,_,_,_,.nil,hb,_,_=>by simp only[backS,Option.some.injEq] at hb;subst hb;exact .nil
 | _,c'::l',_,_,_,_,.nil,hb,_,_=>by simp[backS] at hb
 | _,[],_,_,_,_,.cons c l v vs hc t,hb,_,_=>by simp[backS] at hb
 | _,c'::l',_,_,_,_,.cons c l v vs hc t,hb,.cons _ _ _ _ F G H h1 h2 hF hG hd,hn=>by
  simp only[backS] at hb
  split at hb
  ·rename_i bl1 hb1
   exact(backV_rel hc hb1 h1 (List.nodup_append.1 hn).1).cons (backS_rel t hb h2 (List.nodup_append.1 hn).2.1) hn hd hF hG
  cases hb
theorem Sim.back (h:Sim B W0 I0 I val fs σ a w){ds:List Nat}{bl':List (Nat × Blk)}{J F:Ft}(hB:BackOk w' J val σ.bl bl' ds F)(hF:∀ x,F x→(Of fs ds x∨w.heap.size≤x)∧x < w'.heap.size)
  (hJ:∀ x,J x→(I x∨Of fs ds x∨w.heap.size≤x)∧x < w'.heap.size∧¬ F x) (hK:Kept (fun x=>Of fs ds x∨w.heap.size≤x) w w'):
  ∃ fs',Sim B W0 I0 (fun x=>I x∨J x) val fs' {σ with bl:=bl'} a w':=by
 obtain⟨fn,h1,h2,h3⟩:=hB
 have hOf:∀ x,Of fs ds x→(∃ d b,d∈ds∧blk σ.bl d=some b∧fs d x):=by
  rintro x ⟨d,hd,hx⟩
  obtain⟨_,_,_,hb,_⟩:=h2 d hd
  exact⟨d,_,hd,hb,hx⟩
 have hfree:∀ x,x < w.heap.size→¬ Of fs ds x→w'.heap[x]? =w.heap[x]? :=fun x hx hn=>hK.block x fun h=>h.elim hn fun h=>by omega
 have hIO:∀ x,I x→¬ Of fs ds x:=by
  rintro x hx ho
  obtain⟨d,b,_,hb,hf⟩:=hOf x ho
  exact h.imm d b hb x hf hx
 have hSI:SameOn I w w':=fun x hx=>hfree x (h.lt x hx) (hIO x hx)
 have hII:∀ x,I x→I x∨J x:=fun x hx=>.inl hx
 have hE:Ext σ.bl bl' val val:=by
  intro d b hb
  refine⟨?_,rfl⟩
  by_cases hd:d∈ds
  ·obtain⟨sz,rows,rows',q1,q2,_⟩:=h2 d hd
   rw[hb] at q1
   cases q1
   exact⟨_,q2,rfl,rfl⟩
  exact⟨b,by rw[h1 d hd];exact hb,rfl,rfl⟩
 have e1:∀ d∈ds,(if d∈ds then fn d else fs d)=fn d:=fun d h=>if_pos h
 have e2:∀ d,d ∉ ds→(if d∈ds then fn d else fs d)=fs d:=fun d h=>if_neg h
 have hold:∀ d b,d ∉ ds→blk σ.bl d=some b→∀ x,fs d x→¬ Of fs ds x:=by
  rintro d b hd hb x hx ho
  obtain⟨e,b',he,hb',hf⟩:=hOf x ho
  exact h.disj d e b b' hb hb' (fun h0=>hd (h0 ▸ he)) x hx hf
 have hFB:∀ x,F x→B x:=by
  intro x hx
  rcases(hF x hx).1 with ho | hn
  ·obtain⟨e,b',he,hb',hf⟩:=hOf x ho
   exact(h.new e b' hb' x hf).1
  exact h.size x hn
 have hKB:Kept B w w':=hK.mono fun x hx=>by
  rcases hx with ho | hn
  ·obtain⟨e,b',he,hb',hf⟩:=hOf x ho
   exact(h.new e b' hb' x hf).1
  exact h.size x hn
 refine⟨fun d=>if d∈ds then fn d else fs d,{slots:=RelSL.frame hSI hII hE h.slots,blocks:=fun d b hb=> ?_,disj:=fun d d' b b' hb hb' hne x hx hx'=> ?_,imm:=fun d b hb x hx hi=> ?_,new:=fun d b hb x hx=> ?_,lt:=fun x hx=> ?_,old:=fun x hx=> ?_,below:=h.below.trans hKB,size:=fun x hx=>h.size x (Nat.le_trans hK.size hx),heads:=fun d v hv=> ?_,defers:=h.defers}⟩
 ·have hb:blk bl' d=some b:=hb
  by_cases hd:d∈ds
  ·obtain⟨sz,rows,rows',q1,q2,q3,_⟩:=h2 d hd
   rw[q2] at hb
   cases hb
   simp only[e1 d hd]
   exact ArrR.frame (SameOn.refl _ _) (fun x hx=>.inr hx) (SameOn.refl _ _) q3
  simp only[e2 d hd]
  rw[h1 d hd] at hb
  exact(h.blocks d b hb).frame hSI hII hE fun x hx=>hfree x (h.new d b hb x hx).2 (hold d b hd hb x hx)
 ·have hb:blk bl' d=some b:=hb
  have hb':blk bl' d'=some b':=hb'
  by_cases hd:d∈ds<;>by_cases hd':d'∈ds
  ·simp only[e1 d hd] at hx
   simp only[e1 d' hd'] at hx'
   exact h3 d hd d' hd' hne x hx hx'
  ·simp only[e1 d hd] at hx
   simp only[e2 d' hd'] at hx'
   rw[h1 d' hd'] at hb'
   obtain⟨_,_,_,_,_,_,q⟩:=h2 d hd
   rcases(hF x (q x hx)).1 with ho | hn
   ·exact hold d' b' hd' hb' x hx' ho
   have:=(h.new d' b' hb' x hx').2;omega
  ·simp only[e2 d hd] at hx
   simp only[e1 d' hd'] at hx'
   rw[h1 d hd] at hb
   obtain⟨_,_,_,_,_,_,q⟩:=h2 d' hd'
   rcases(hF x (q x hx')).1 with ho | hn
   ·exact hold d b hd hb x hx ho
   have:=(h.new d b hb x hx).2;omega
  simp only[e2 d hd] at hx
  simp only[e2 d' hd'] at hx'
  rw[h1 d hd] at hb
  rw[h1 d' hd'] at hb'
  exact h.disj d d' b b' hb hb' hne x hx hx'
 ·have hb:blk bl' d=some b:=hb
  by_cases hd:d∈ds
  ·simp only[e1 d hd] at hx
   obtain⟨_,_,_,_,_,_,q⟩:=h2 d hd
   have hFx:=q x hx
   rcases hi with hi | hi
   ·rcases(hF x hFx).1 with ho | hn
    ·exact hIO x hi ho
    have:=h.lt x hi;omega
   exact(hJ x hi).2.2 hFx
  simp only[e2 d hd] at hx
  rw[h1 d hd] at hb
  rcases hi with hi | hi
  ·exact h.imm d b hb x hx hi
  rcases(hJ x hi).1 with hi | ho | hn
  ·exact h.imm d b hb x hx hi
  ·exact hold d b hd hb x hx ho
  have:=(h.new d b hb x hx).2;omega
 ·have hb:blk bl' d=some b:=hb
  by_cases hd:d∈ds
  ·simp only[e1 d hd] at hx
   obtain⟨_,_,_,_,_,_,q⟩:=h2 d hd
   exact⟨hFB x (q x hx),(hF x (q x hx)).2⟩
  simp only[e2 d hd] at hx
  rw[h1 d hd] at hb
  exact⟨(h.new d b hb x hx).1,Nat.lt_of_lt_of_le (h.new d b hb x hx).2 hK.size⟩
 ·rcases hx with hx | hx
  ·exact Nat.lt_of_lt_of_le (h.lt x hx) hK.size
  exact(hJ x hx).2.1
 ·rcases hx with hx | hx
  ·exact h.old x hx
  rcases(hJ x hx).1 with hi | ho | hn
  ·exact h.old x hi
  ·obtain⟨e,b',he,hb',hf⟩:=hOf x ho
   exact .inr (h.new e b' hb' x hf).1
  exact .inr (h.size x hn)
 obtain⟨q1,b,q2⟩:=h.heads d v hv
 obtain⟨⟨b',q3,_⟩,_⟩:=hE d b q2
 exact⟨q1,b',q3⟩
theorem RelL.takeOut :∀{l:List PV} {vs:List Value} {F:Ft},RelL w I l vs F→∀(k:Nat) {c:PV},l[k]? =some c→(∀ u G,RelV w I c u G→u.oneCell'=true)→
  ∃ u F1 G1,vs[k]? =some u∧RelV w I c u F1∧RelL w I (setL l k (.raw u)) vs G1∧(∀ x,F1 x→F x)∧(∀ x,G1 x→F x)∧∀ x,F1 x→¬ G1 x
 | _,_,_,.nil F,k,c,h,_=>by simp at h
 | _,_,_,.cons c l v vs F G H hc t hF hG hd,0,c',h,h1=>by
  simp only[List.getElem?_cons_zero,Option.some.injEq] at h
  subst h
  exact⟨v,F,G,rfl,hc,.cons _ _ _ _ none' G G (.raw _ _ (h1 v F hc)) t (fun x hx=>hx.elim) (fun x hx=>hx) (fun x hx=>hx.elim),hF,hG,hd⟩
 | _,_,_,.cons c l v vs F G H hc t hF hG hd,k+1,c',h,h1=>by
  simp only[List.getElem?_cons_succ] at h
  obtain⟨u,F1,G1,q1,q2,q3,q4,q5,q6⟩:=t.takeOut k h h1
  refine⟨u,F1,fun x=>F x∨G1 x,by simpa using q1,q2,.cons _ _ _ _ F G1 _ hc q3 (fun x hx=>.inl hx) (fun x hx=>.inr hx) (fun x hx hg=>hd x hx (q5 x hg)),fun x hx=>hG x (q4 x hx),fun x hx=>hx.elim (hF x) (fun h=>hG x (q5 x h)),fun x hx hy=> ?_⟩
  rcases hy with hy | hy
  ·exact hd x hy (q4 x hx)
  exact q6 x hx hy
theorem raw_val {w:World}{I:Ft}{v u:Value}{F:Ft}(h:RelV w I (.raw v) u F):u=v:=by cases h;rfl
theorem RelL.rawAt :∀{l:List PV} {vs:List Value} {F:Ft},RelL w I l vs F→∀(k:Nat) {v:Value},l[k]? =some (.raw v)→vs[k]? =some v
 | _,_,_,.nil F,k,v,h=>by simp at h
 | _,_,_,.cons c l u vs F G H hc t hF hG hd,0,v,h=>by
  simp only[List.getElem?_cons_zero,Option.some.injEq] at h
  subst h
  rw[raw_val hc];rfl
 | _,_,_,.cons c l u vs F G H hc t hF hG hd,k+1,v,h=>by
  simpa using t.rawAt k (by simpa using h)
theorem setRow_flat {sz:Nat}{rows:List (List PV)}(hu:∀ r∈rows,r.length=sz){i:Nat}{r:List PV}(hr:rows[i]? =some r){j:Nat}(hj:j < r.length)(c:PV):
 (rows.set i (setL r j c)).flatten=setL rows.flatten (i * sz+j) c:=flatten_set rows hu i r hr j c hj
theorem set_uniform {sz:Nat}{rows:List (List PV)}(hu:∀ r∈rows,r.length=sz){i:Nat}{r:List PV}(hr:rows[i]? =some r)(j:Nat)(c:PV):∀ r'∈rows.set i (setL r j c),r'.length=sz:=by
 intro r' hr'
 rcases List.mem_or_eq_of_mem_set hr' with h | h
 ·exact hu r' h
 rw[h,setL_length];exact hu r (List.mem_of_getElem? hr)
theorem Sim.nest (h:Sim B W0 I0 I val fs σ a w){d dd i j sz s:Nat}{rows nrows:List (List PV)}{r:List PV}(hd:blk σ.bl d=some ⟨.arr,sz,rows⟩)(hr:rows[i]? =some r)(hj:r[j]? =some (.ow s nrows))(hdd:blk σ.bl dd=none):
  ∃ u g,baseOf (val d)=some g∧w.cell? ⟨g,i * sz+j,none⟩=some u∧∃ val' fs',Sim B W0 I0 I val' fs' {σ with bl:=(dd,⟨.arr,s,nrows⟩)::setB σ.bl d ⟨.arr,sz,rows.set i (setL r j (.raw u))⟩,hd:=(dd,u)::σ.hd} a w∧val' dd=u:=by
 obtain⟨e,xs,G,hu,how,hR,hG,hob⟩:=h.blocks d _ hd
 have hrl:=hu r (List.mem_of_getElem? hr)
 have hjl:j < r.length:=(List.getElem?_eq_some_iff.1 hj).1
 have hfl:rows.flatten[i * sz+j]? =some (.ow s nrows):=by rw[flat_get rows hu i r hr j hjl];exact hj
 obtain⟨u,F1,G1,q1,q2,q3,q4,q5,q6⟩:=hR.takeOut (i * sz+j) hfl (fun u G hu=>by
  cases hu with
  | ow sz rows v e xs F G hu how hr hG hb=>rcases how.2 with ⟨rfl,_⟩ | ⟨g,cap,cur,rfl,_⟩<;>rfl)
 have hne:d≠dd:=by rintro rfl;rw[hd] at hdd;cases hdd
 have hi:=(List.getElem?_eq_some_iff.1 hr).1
 obtain⟨g,hg,hog⟩:∃ g,baseOf (val d)=some g∧(val d).ownBlock=some g:=by
  rcases how.2 with ⟨hv,hn⟩ | ⟨g,cap,cur,hv,_⟩
  ·omega
  rw[hv];exact⟨g,rfl,rfl⟩
 have hcell:w.cell? ⟨g,i * sz+j,none⟩=some u:=by
  have:=how.cells hog (i * sz+j) u q1
  rwa [Addr.add_mid,Nat.zero_add] at this
 have hF1d:∀ x,F1 x→fs d x:=fun x hx=>hG x (q4 x hx)
 refine⟨u,g,hg,hcell,upd val dd u,upd (upd fs d (fun x=>fs d x∧¬ F1 x)) dd F1,?_,upd_same _ _ _⟩
 have hE:Ext σ.bl ((dd,⟨.arr,s,nrows⟩)::setB σ.bl d ⟨.arr,sz,rows.set i (setL r j (.raw u))⟩) val (upd val dd u):=by
  intro e' b hb
  have hne':e'≠dd:=by rintro rfl;rw[hdd] at hb;cases hb
  refine⟨?_,upd_ne _ _ hne'⟩
  rw[blk_cons,if_neg (Ne.symm hne'),blk_setB]
  by_cases h0:d=e'
  ·subst h0;rw[hd] at hb;cases hb;rw[if_pos rfl];exact⟨_,rfl,rfl,rfl⟩
  rw[if_neg h0];exact⟨b,hb,rfl,rfl⟩
 have look:∀ e' c,blk ((dd,(⟨.arr,s,nrows⟩:Blk))::setB σ.bl d ⟨.arr,sz,rows.set i (setL r j (.raw u))⟩) e'=some c→
   (e'=dd∧c=⟨.arr,s,nrows⟩)∨(e'=d∧c=⟨.arr,sz,rows.set i (setL r j (.raw u))⟩)∨(e'≠dd∧e'≠d∧blk σ.bl e'=some c):=by
  intro e' c hc
  rw[blk_cons] at hc
  by_cases h0:dd=e'
  ·rw [if_pos h0] at hc;exact .inl ⟨h0.symm,by simpa using hc.symm⟩
  rw[if_neg h0,blk_setB] at hc
  by_cases h1:d=e'
  ·rw [if_pos h1] at hc;exact .inr (.inl ⟨h1.symm,by simpa using hc.symm⟩)
  rw[if_neg h1] at hc;exact .inr (.inr ⟨Ne.symm h0,Ne.symm h1,hc⟩)
 have f1:upd (upd fs d (fun x=>fs d x∧¬ F1 x)) dd F1 dd=F1:=upd_same _ _ _
 have f2:upd (upd fs d (fun x=>fs d x∧¬ F1 x)) dd F1 d=fun x=>fs d x∧¬ F1 x:=by rw[upd_ne _ _ hne,upd_same]
 have f3:∀ e',e'≠dd→e'≠d→upd (upd fs d (fun x=>fs d x∧¬ F1 x)) dd F1 e'=fs e':=fun e' h1 h2=>by rw[upd_ne _ _ h1,upd_ne _ _ h2]
 refine{slots:=RelSL.frame (SameOn.refl _ _) (fun _ h=>h) hE h.slots,blocks:=fun e' c hc=> ?_,disj:=fun e1 e2 c1 c2 hc1 hc2 hne12 x hx hx'=> ?_,imm:=fun e' c hc x hx=> ?_,new:=fun e' c hc x hx=> ?_,lt:=h.lt,old:=h.old,below:=h.below,size:=h.size,heads:=fun e' v hv=> ?_,defers:=h.defers}
 ·rcases look e' c hc with ⟨rfl,rfl⟩ | ⟨rfl,rfl⟩ | ⟨h1,h2,h3⟩
  ·rw [f1,upd_same]
   cases q2 with
   | ow s nrows v e2 xs2 F G2 hu2 how2 hr2 hG2 hb2=>exact⟨e2,xs2,G2,hu2,how2,hr2,hG2,hb2⟩
  ·rw [f2,upd_ne _ _ hne]
   refine⟨e,xs,G1,set_uniform hu hr j _,by rw[List.length_set];exact how,by rw[setRow_flat hu hr hjl];exact q3,fun x hx=>⟨hG x (q5 x hx),fun hf=>q6 x hf hx⟩,fun b hb=> ?_⟩
   obtain⟨p1,p2⟩:=hob b hb
   exact⟨⟨p1,fun hf=>p2 (q4 b hf)⟩,fun hg1=>p2 (q5 b hg1)⟩
  rw[f3 e' h1 h2,upd_ne _ _ h1]
  exact(h.blocks e' c h3).frame (SameOn.refl _ _) (fun _ h=>h) hE (SameOn.refl _ _)
 ·rcases look e1 c1 hc1 with ⟨rfl,rfl⟩ | ⟨rfl,rfl⟩ | ⟨p1,p2,p3⟩<;>rcases look e2 c2 hc2 with ⟨rfl,rfl⟩ | ⟨rfl,rfl⟩ | ⟨r1,r2,r3⟩
  ·exact hne12 rfl
  ·rw [f1] at hx;rw[f2] at hx';exact hx'.2 hx
  ·rw [f1] at hx;rw[f3 e2 r1 r2] at hx';exact h.disj _ _ _ _ hd r3 (Ne.symm r2) x (hF1d x hx) hx'
  ·rw [f2] at hx;rw[f1] at hx';exact hx.2 hx'
  ·exact hne12 rfl
  ·rw [f2] at hx;rw[f3 e2 r1 r2] at hx';exact h.disj _ _ _ _ hd r3 (Ne.symm r2) x hx.1 hx'
  ·rw [f3 e1 p1 p2] at hx;rw[f1] at hx';exact h.disj _ _ _ _ p3 hd p2 x hx (hF1d x hx')
  ·rw [f3 e1 p1 p2] at hx;rw[f2] at hx';exact h.disj _ _ _ _ p3 hd p2 x hx hx'.1
  rw[f3 e1 p1 p2] at hx;rw[f3 e2 r1 r2] at hx';exact h.disj _ _ _ _ p3 r3 hne12 x hx hx'
 ·rcases look e' c hc with ⟨rfl,rfl⟩ | ⟨rfl,rfl⟩ | ⟨h1,h2,h3⟩
  ·rw [f1] at hx;exact h.imm _ _ hd x (hF1d x hx)
  ·rw [f2] at hx;exact h.imm _ _ hd x hx.1
  rw[f3 e' h1 h2] at hx;exact h.imm _ _ h3 x hx
 ·rcases look e' c hc with ⟨rfl,rfl⟩ | ⟨rfl,rfl⟩ | ⟨h1,h2,h3⟩
  ·rw [f1] at hx;exact h.new _ _ hd x (hF1d x hx)
  ·rw [f2] at hx;exact h.new _ _ hd x hx.1
  rw[f3 e' h1 h2] at hx;exact h.new _ _ h3 x hx
 have hv:lookV ((dd,u)::σ.hd) e'=some v:=hv
 rw[lookV_cons] at hv
 by_cases h0:dd=e'
 ·subst h0
  rw[if_pos rfl] at hv
  cases hv
  exact⟨upd_same _ _ _,_,by rw[blk_cons,if_pos rfl]⟩
 rw[if_neg h0] at hv
 obtain⟨p1,b,p2⟩:=h.heads e' v hv
 obtain⟨⟨b',p3,_⟩,_⟩:=hE e' b p2
 exact⟨by rw[upd_ne _ _ (Ne.symm h0)];exact p1,b',p3⟩
theorem list_set_same {α:Type}:∀(l:List α) (k:Nat) (x:α),l[k]? =some x→l.set k x=l
 | [],_,_,_=>rfl
 | y::l,0,x,h=>by simp at h;simp[h]
 | y::l,k+1,x,h=>by simp at h;simp[list_set_same l k x h]
theorem Sim.giveBack (h:Sim B W0 I0 I val fs σ a w){D d i j sz s:Nat}{rows nrows:List (List PV)}{r:List PV}{v:Value}(hD:blk σ.bl D=some ⟨.arr,s,nrows⟩)(hv:lookV σ.hd D=some v)(hd:blk (σ.drop D).bl d=some ⟨.arr,sz,rows⟩)
  (hr:rows[i]? =some r) (hj:r[j]? =some (.raw v)) (hne:D≠d):∃ fs',Sim B W0 I0 I val fs' {σ.drop D with bl:=setB (σ.drop D).bl d ⟨.arr,sz,rows.set i (setL r j (.ow s nrows))⟩} a w:=by
 have h1:=h.drop D
 obtain⟨e,xs,G,hu,how,hR,hG,hob⟩:=h1.blocks d _ hd
 obtain⟨e2,xs2,G2,hu2,how2,hR2,hG2,hob2⟩:=h.blocks D _ hD
 have hvD:=(h.heads D v hv).1
 have hjl:j < r.length:=(List.getElem?_eq_some_iff.1 hj).1
 have hfl:rows.flatten[i * sz+j]? =some (.raw v):=by rw[flat_get rows hu i r hr j hjl];exact hj
 have hxv:=hR.rawAt (i * sz+j) hfl
 have hdisj:∀ x,fs D x→¬ fs d x:=by
  obtain⟨b,hb⟩:∃ b,blk σ.bl d=some b:=by
   have hd':blk (killB D (delB σ.bl D)) d=some ⟨.arr,sz,rows⟩:=hd
   rw[blk_killB,blk_delB,if_neg hne] at hd'
   cases hq:blk σ.bl d with
   | none=>rw[hq] at hd';cases hd'
   | some b=>exact⟨b,rfl⟩
  exact fun x hx hx'=>h.disj D d _ _ hD hb hne x hx hx'
 have hrel:RelL w I (setL rows.flatten (i * sz+j) (.ow s nrows)) xs (fun b=>G b∨fs D b):=by
  have:=hR.set (i * sz+j) (c:=.ow s nrows) (v:=v) (F:=fs D) (by rw[← hvD];exact .ow s nrows (val D) e2 xs2 (fs D) G2 hu2 how2 hR2 hG2 hob2) (fun b hb hg=>hdisj b hb (hG b hg))
  rwa [list_set_same xs _ v hxv] at this
 refine⟨_,h1.setBlk hd (b':=⟨.arr,sz,rows.set i (setL r j (.ow s nrows))⟩) rfl rfl (fun _ _=>rfl) (Kept.refl _ _) (F:=fun x=>fs d x∨fs D x)
  ⟨e,xs,_,set_uniform hu hr j _,by rw[List.length_set];exact how,by rw[setRow_flat hu hr hjl];exact hrel,fun x hx=>Or.imp (hG x) (fun h=>h) hx,fun b hb=> ?_⟩
  (fun x hx=>by rcases hx with hx | hx;exact h1.new d _ hd x hx;exact h.new D _ hD x hx) (fun x hx=>by rcases hx with hx | hx;exact h1.imm d _ hd x hx;exact h.imm D _ hD x hx) (fun x hx e' c hne' hc=> ?_)⟩
 ·obtain⟨p1,p2⟩:=hob b hb
  exact⟨.inl p1,fun h=>h.elim p2 fun h=>hdisj b h p1⟩
 rcases hx with hx | hx
 ·exact h1.disj _ _ _ _ hd hc (Ne.symm hne') x hx
 have hc':blk (killB D (delB σ.bl D)) e'=some c:=hc
 rw[blk_killB,blk_delB] at hc'
 by_cases h0:D=e'
 ·rw [if_pos h0] at hc';cases hc'
 rw[if_neg h0] at hc'
 cases hq:blk σ.bl e' with
 | none=>rw[hq] at hc';cases hc'
 | some b=>exact h.disj D e' _ _ hD hq h0 x hx
end
end Go.Av

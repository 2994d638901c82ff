/- Lemmas and walks for FnExactServerNew: what each function of the program and of the reference comes to. -/
import Derived.Test.YtghokbigemmaaaaGreatAvc
open Option renaming some→aaQ
open Bool renaming and_eq_true→aaR
open List renaming mem_append→aaV,getElem?_eq_some_iff→aaZ,replicate→aa0,mem_singleton→aba,mem_of_getElem?→abx,getElem?_cons_zero→ab3,nodup_append→ab8
open Nat renaming lt_of_lt_of_le→abg,le_trans→acf
open Ne renaming symm→abG
namespace Go.Av
open Go Go.RowKit
set_option linter.unusedVariables false
set_option linter.unusedSimpArgs false
section
variable {P : Program} {T : dA} {B : Ft} {W0 : World} {I0 : Ft} {I : Ft} {val : Nat -> Value} {fs : Nat -> Ft} {σ aA : St} {a : Act} {w w' : World} {o : Oper}
theorem qx :∀{x y bl:List (Nat × aO)},cV bl (x++y)=true->cV bl y=true/\cV (y++bl) x=true
 | [],y,bl,h=>⟨h,rfl⟩
 | (d,b)::x,y,bl,h=>by
  rw[List.cons_append] at h
  obtain⟨h1,h2,h3⟩:=lC h
  obtain⟨h4,h5⟩:=qx h3
  refine⟨h4,?_⟩
  rw[fZ] at h2
  have hx:av x d=none:=by cases hq:av x d with | none=>rfl | some q=>rw[hq] at h2;cases h2
  rw[hx] at h2
  have hy:av y d=none:=h2
  simp only[cV,h5,hx,Bool.and_true]
  rw[fZ,hy,h1]
theorem Hw {own:Bool}{id:Nat}{c:PV}(h:∀ cs,c≠ .agg cs):jC own id c=((jU own id c).1,match (jU own id c).2 with | some b=>[(id,b)] | none=>[]):=by
 cases c<;>first | rfl | exact absurd rfl (h _)
theorem Hx (h:bz B W0 I0 I val fs σ a w){id:Nat}{c:PV}{v:Value}{F:Ft}(hc:jD w I c v F)(hF:∀ x,F x->B x/\x < w.heap.size)(hI:∀ x,F x->¬ I x)(hO:∀ x,F x->∀ e b,av σ.bl e=some b->¬ fs e x)
  (hfree:cV σ.bl (jC true id c).2=true):
  ∃ cr gP,bz B W0 I0 I cr gP {σ with bl:=(jC true id c).2++σ.bl} a w/\bI w I cr ((jC true id c).2++σ.bl) (jC true id c).1 v/\Ext σ.bl ((jC true id c).2++σ.bl) val cr/\
   Ag σ.bl ((jC true id c).2++σ.bl) fs gP F:=by
 cases hc with
 | one c v F hv=>
  have hne:∀ cs,c≠ .agg cs:=by rintro cs rfl;cases hv
  rw[Hw hne] at hfree ⊢
  exact Hv h hv hF hI hO rfl hfree
 | agg cs vs F hl=>
  obtain⟨cr,gP,h1,h2,h3,h4⟩:=vm h hl hF hI hO hfree
  exact⟨cr,gP,h1,.agg _ _ h2,h3,h4⟩
theorem vo :∀{l:List PV} {vs:List Value} {F:Ft} {id:Nat},bz B W0 I0 I val fs σ a w->iE w I l vs F->(∀ x,F x->B x/\x < w.heap.size)->(∀ x,F x->¬ I x)->(∀ x,F x->∀ e b,av σ.bl e=some b->¬ fs e x)->
    cV σ.bl (cJ true id l).2=true->
    ∃ cr gP,bz B W0 I0 I cr gP {σ with bl:=(cJ true id l).2++σ.bl} a w/\aG w I cr ((cJ true id l).2++σ.bl) (cJ true id l).1 vs/\Ext σ.bl ((cJ true id l).2++σ.bl) val cr/\
      Ag σ.bl ((cJ true id l).2++σ.bl) fs gP F
  | _,_,_,id,h,.nil F,_,_,_,_=>⟨val,fs,h,.nil,Ext.refl _ _,λd b hb=>.inl ⟨hb,rfl⟩⟩
  | _,_,_,id,h,.cons c l v vs F G H hc ht hF hG hd,hlt,hI,hO,hfree=>by
    obtain⟨hrest,J8⟩:=qx (x:=(jC true id c).2) (y:=(cJ true (id+100000) l).2) hfree
    obtain⟨qw,vn,iW,xg,VA,PD⟩:=vo (id:=id+100000) h ht (λx hx=>hlt x (hG x hx)) (λx hx=>hI x (hG x hx)) (λx hx=>hO x (hG x hx)) hrest
    have VB:∀ x,F x->∀ e b,av ((cJ true (id+100000) l).2++σ.bl) e=some b->¬ vn e x:=by
      intro x hx e b he hf
      rcases PD e b he with ⟨h1,h2⟩ | ⟨h1,h2⟩
      · rw[h2] at hf;exact hO x (hF x hx) e b h1 hf
      · exact hd x hx (h2 x hf)
    obtain⟨wE,Em,zf,nW,pW,En⟩:=Hx iW hc (λx hx=>hlt x (hF x hx)) (λx hx=>hI x (hF x hx)) VB J8
    have hbl:(jC true id c).2++((cJ true (id+100000) l).2++σ.bl)=(cJ true id (c::l)).2++σ.bl:=by simp only[cJ,List.append_assoc]
    rw[hbl] at zf nW pW En
    refine⟨wE,Em,zf,.cons _ _ _ _ nW (aG.frame (bw.refl _ _) (λ_ h=>h) pW xg),VA.trans pW,λd b hb=>?_⟩
    rcases En d b hb with ⟨h1,h2⟩ | ⟨h1,h2⟩
    · rcases PD d b h1 with ⟨h3,h4⟩ | ⟨h3,h4⟩
      · exact .inl ⟨h3,h2.trans h4⟩
      · exact .inr ⟨h3,λx hx=>hG x (h4 x (by rw[h2] at hx;exact hx))⟩
    · refine .inr ⟨?_,λx hx=>hF x (h2 x hx)⟩
      rw[fZ] at h1
      cases hq:av (cJ true (id+100000) l).2 d with
      | none=>rw[hq] at h1;exact h1
      | some q=>rw[hq] at h1;cases h1
theorem Hy (h:bz B W0 I0 I val fs σ a w){id:Nat}{c:PV}{v:Value}{F:Ft}(hc:jK w I c v F)(hF:∀ x,F x->B x/\x < w.heap.size)(hI:∀ x,F x->¬ I x)(hO:∀ x,F x->∀ e b,av σ.bl e=some b->¬ fs e x)
  (hfree:cV σ.bl (gH true id c).2=true):
  ∃ cr gP,bz B W0 I0 I cr gP {σ with bl:=(gH true id c).2++σ.bl} a w/\bI w I cr ((gH true id c).2++σ.bl) (gH true id c).1 v:=by
 cases hc with
 | one c v F hv=>
  have hne:gH true id c=jC true id c:=by
   cases c with
   | aw vs=>cases hv with | one _ _ _ hv=>cases hv
   | _=>rfl
  rw[hne] at hfree ⊢
  obtain⟨cr,gP,h1,h2,_,_⟩:=Hx h hv hF hI hO hfree
  exact⟨cr,gP,h1,h2⟩
 | aw cs vs F hl=>
  obtain⟨cr,gP,h1,h2,h3,h4⟩:=vo h hl hF hI hO hfree
  exact⟨cr,gP,h1,.aw _ _ h2⟩
end
theorem Kx {d:Nat}:∀{l:List Nat},qp d l=false->d ∉ l
 | [],_=>by simp
 | e::l,h=>by
  simp only[qp,Bool.or_eq_false_iff] at h
  intro hm
  rcases List.mem_cons.1 hm with rfl | hm
  ·rw [beq_true] at h;cases h.1
  exact Kx h.2 hm
theorem HP :∀{l:List Nat},zW l=true->l.Nodup
 | [],_=>by simp
 | d::l,h=>by
  simp only[zW,aaR,Bool.not_eq_true'] at h
  exact List.nodup_cons.2 ⟨Kx h.1,HP h.2⟩
section
variable {P : Program} {T : dA} {B : Ft} {W0 : World} {I0 : Ft} {I : Ft} {val : Nat -> Value} {fs : Nat -> Ft} {σ aA : St} {a : Act} {w w' : World} {o : Oper}
def Of (fs:Nat->Ft)(ds:List Nat):Ft:=λx=>∃ d∈ds,fs d x
theorem Of.bX (h:bz B W0 I0 I val fs σ a w){a1 b1:List Nat}(hn:(a1++b1).Nodup)(ha:∀ d∈a1++b1,∃ b,av σ.bl d=some b):∀ x,Of fs a1 x->¬ Of fs b1 x:=by
 rintro x ⟨d,hd,hx⟩ ⟨e,he,hy⟩
 have hne:d≠e:=λh0=>(ab8.1 hn).2.2 d hd e he h0
 obtain⟨b,hb⟩:=ha d (by simp[hd])
 obtain⟨b',cP⟩:=ha e (by simp[he])
 exact h.bX d e b b' hb cP hne x hx hy
theorem HQ (h:bz B W0 I0 I val fs σ a w){c c':PV}{v:Value}(hc:bI w I val σ.bl c v)(hl:pz σ.bl c=some c'):
  dj w I c' v (Of fs (lZ c))/\∀ d∈lZ c,∃ b,av σ.bl d=some b:=by
 cases hc with
 | leaf c v hlf hv=>
  have e:pz σ.bl c=some c:=by cases c<;>simp[bG] at hlf<;>rfl
  have e2:lZ c=[]:=by cases c<;>simp[bG] at hlf<;>rfl
  rw[e] at hl
  cases hl
  exact⟨fH hlf hv,λd hd=>by rw[e2] at hd;simp at hd⟩
 | own d b hb hk=>
  simp only[pz,hb] at hl
  split at hl
  ·rename_i sz rows hq
   cases hq
   cases hl
   obtain⟨e,xs,G,hu,how,hr,hG,cP⟩:=h.blocks d _ hb
   refine⟨(dj.ow sz rows (val d) e xs (fs d) G hu how hr hG cP).mono λx hx=>⟨d,by simp[lZ],hx⟩,λe he=>?_⟩
   simp only[lZ,aba] at he
   subst he
   exact⟨_,hb⟩
  cases hl
 | pt d i j b g hb hg=>simp[pz,bG] at hl
 | rd cs a vs hI hs hcell hr=>simp[pz,bG] at hl
 | agg cs vs h=>simp[pz,bG] at hl
 | aw cs vs h=>simp[pz,bG] at hl
 | fn f cs vs h=>simp[pz,bG] at hl
 | aa v=>simp[pz,bG] at hl
theorem Of.left {fs:Nat->Ft}{a b:List Nat}{x:Nat}(h:Of fs a x):Of fs (a++b) x:=by obtain⟨d,hd,hx⟩:=h;exact⟨d,by simp[hd],hx⟩
theorem Of.right {fs:Nat->Ft}{a b:List Nat}{x:Nat}(h:Of fs b x):Of fs (a++b) x:=by obtain⟨d,hd,hx⟩:=h;exact⟨d,by simp[hd],hx⟩
theorem HR (h:bz B W0 I0 I val fs σ a w):∀{l l':List PV} {vs:List Value},aG w I val σ.bl l vs->Ed σ.bl l=some l'->(tm l).Nodup->bE w I l' vs (Of fs (tm l))/\∀ d∈tm l,∃ b,av σ.bl d=some b
 | _,_,_,.nil,hl,_=>by
  simp only[Ed,aaQ.injEq] at hl;subst hl
  exact⟨.nil _,λd hd=>by simp[tm] at hd⟩
 | _,_,_,.cons c l v vs hc t,hl,hn=>by
  simp only[Ed] at hl
  split at hl
  ·rename_i c' l2 h1 h2
   cases hl
   obtain⟨r1,b1⟩:=HQ h hc h1
   have nG:=(ab8.1 hn).2.1
   obtain⟨r2,b2⟩:=HR h t h2 nG
   have hb:∀ d∈lZ c++tm l,∃ b,av σ.bl d=some b:=λd hd=>(aaV.1 hd).elim (b1 d) (b2 d)
   exact⟨.cons _ _ _ _ _ _ _ r1 r2 (λx hx=>hx.left) (λx hx=>hx.right) (Of.bX h hn hb),hb⟩
  cases hl
theorem P5 (h:bz B W0 I0 I val fs σ a w){c c':PV}{v:Value}(hc:bI w I val σ.bl c v)(hl:JI σ.bl c=some c')(hn:(tn c).Nodup):
  jD w I c' v (Of fs (tn c))/\∀ d∈tn c,∃ b,av σ.bl d=some b:=by
 by_cases hagg:∃ cs,c=.agg cs
 ·obtain⟨cs,rfl⟩:=hagg
  simp only[JI] at hl
  split at hl
  ·rename_i cx h1
   cases hl
   cases hc with
   | leaf c v hlf hv=>cases hlf
   | agg cs vs hs=>
    obtain⟨r1,b1⟩:=HR h hs h1 hn
    exact⟨.agg _ _ _ r1,b1⟩
  cases hl
 have e1:JI σ.bl c=pz σ.bl c:=by cases c<;>first | rfl | exact absurd ⟨_,rfl⟩ hagg
 have e2:tn c=lZ c:=by cases c<;>first | rfl | exact absurd ⟨_,rfl⟩ hagg
 rw[e1] at hl
 rw[e2]
 obtain⟨r1,b1⟩:=HQ h hc hl
 exact⟨.one _ _ _ r1,b1⟩
theorem AG (h:bz B W0 I0 I val fs σ a w):∀{l l':List PV} {vs:List Value},aG w I val σ.bl l vs->vi σ.bl l=some l'->(pA l).Nodup->iE w I l' vs (Of fs (pA l))/\∀ d∈pA l,∃ b,av σ.bl d=some b
 | _,_,_,.nil,hl,_=>by
  simp only[vi,aaQ.injEq] at hl;subst hl
  exact⟨.nil _,λd hd=>by simp[pA] at hd⟩
 | _,_,_,.cons c l v vs hc t,hl,hn=>by
  simp only[vi] at hl
  split at hl
  ·rename_i c' l2 h1 h2
   cases hl
   obtain⟨r1,b1⟩:=P5 h hc h1 (ab8.1 hn).1
   obtain⟨r2,b2⟩:=AG h t h2 (ab8.1 hn).2.1
   have hb:∀ d∈tn c++pA l,∃ b,av σ.bl d=some b:=λd hd=>(aaV.1 hd).elim (b1 d) (b2 d)
   exact⟨.cons _ _ _ _ _ _ _ r1 r2 (λx hx=>hx.left) (λx hx=>hx.right) (Of.bX h hn hb),hb⟩
  cases hl
def oj (w:World)(J:Ft)(val:Nat->Value)(bl cy:List (Nat × aO))(ds:List Nat)(F:Ft):Prop:=
 ∃ fn:Nat->Ft,(∀ d,d ∉ ds->av cy d=av bl d)/\(∀ d∈ds,∃ sz rows dI,av bl d=some ⟨.arr,sz,rows⟩/\av cy d=some ⟨.arr,sz,dI⟩/\yg w J sz dI (val d) (fn d)/\∀ x,fn d x->F x)/\
  ∀ d∈ds,∀ d'∈ds,d≠d'->∀ x,fn d x->¬ fn d' x
theorem oj.nil {J:Ft}{bl:List (Nat × aO)}{F:Ft}:oj w J val bl bl [] F:=⟨λ_=>bf,λ_ _=>rfl,λd hd=>by simp at hd,λd hd=>by simp at hd⟩
theorem oj.cons {J:Ft}{bl TF qc:List (Nat × aO)}{d1 d2:List Nat}{F G H:Ft}(h1:oj w J val bl TF d1 F)(h2:oj w J val TF qc d2 G)(hn:(d1++d2).Nodup)(hdj:∀ x,F x->¬ G x)
  (hF:∀ x,F x->H x) (hG:∀ x,G x->H x):oj w J val bl qc (d1++d2) H:=by
 obtain⟨f1,a1,b1,c1⟩:=h1
 obtain⟨f2,a2,b2,c2⟩:=h2
 have jL:∀ d∈d1,d ∉ d2:=λd hd nL=>(ab8.1 hn).2.2 d hd d nL rfl
 have e1:∀ d∈d1,(if d∈d1 then f1 d else f2 d)=f1 d:=λd h=>if_pos h
 have e2:∀ d∈d2,(if d∈d1 then f1 d else f2 d)=f2 d:=λd h=>if_neg λh'=>jL d h' h
 refine⟨λd=>if d∈d1 then f1 d else f2 d,λd hd=>?_,λd hd=>?_,λd hd d' nL hne x hx aX=>?_⟩
 ·simp only[aaV,not_or] at hd
  rw[a2 d hd.2,a1 d hd.1]
 ·rcases aaV.1 hd with h | h
  ·obtain⟨sz,rows,dI,q1,q2,q3,q4⟩:=b1 d h
   simp only[e1 d h]
   exact⟨sz,rows,dI,q1,by rw[a2 d (jL d h)];exact q2,q3,λx hx=>hF x (q4 x hx)⟩
  obtain⟨sz,rows,dI,q1,q2,q3,q4⟩:=b2 d h
  simp only[e2 d h]
  exact⟨sz,rows,dI,by rw[<- a1 d (λh'=>jL d h' h)];exact q1,q2,q3,λx hx=>hG x (q4 x hx)⟩
 rcases aaV.1 hd with h | h<;>rcases aaV.1 nL with h' | h'
 ·simp only[e1 d h] at hx
  simp only[e1 d' h'] at aX
  exact c1 d h d' h' hne x hx aX
 ·simp only[e1 d h] at hx
  simp only[e2 d' h'] at aX
  obtain⟨_,_,_,_,_,_,q⟩:=b1 d h
  obtain⟨_,_,_,_,_,_,q'⟩:=b2 d' h'
  exact hdj x (q x hx) (q' x aX)
 ·simp only[e2 d h] at hx
  simp only[e1 d' h'] at aX
  obtain⟨_,_,_,_,_,_,q⟩:=b2 d h
  obtain⟨_,_,_,_,_,_,q'⟩:=b1 d' h'
  exact hdj x (q' x aX) (q x hx)
 simp only[e2 d h] at hx
 simp only[e2 d' h'] at aX
 exact c2 d h d' h' hne x hx aX
theorem HS {J:Ft}{ph bl cy:List (Nat × aO)}{c c':PV}{v:Value}{F:Ft}(hc:bI w I val ph c v)(hb:tp bl c c'=some cy)(hv:dj w' J c' v F):oj w' J val bl cy (lZ c) F:=by
 by_cases hown:∃ d,c=.own d
 ·obtain⟨d,rfl⟩:=hown
  have hvd:v=val d:=by cases hc with
   | leaf c v hl h=>cases hl
   | own d b hb hk=>rfl
  subst hvd
  unfold tp at hb
  split at hb
  ·rename_i d0 sz rows hq
   cases hq
   split at hb
   ·rename_i oS YU hblk
    cases hz:nq oS sz with
    | false=>simp[hz] at hb
    | true=>
     have P6:=eZ hz
     subst P6
     simp only[hz,cond_true,aaQ.injEq] at hb
     subst hb
     cases hv with
     | ow sz rows v e xs F G hu how hr hG hob=>
      refine⟨λ_=>F,λe he=>?_,λe he=>?_,λe he e' lu hne=>?_⟩
      ·rw [ct,if_neg (λh0=>he (by simp[lZ,h0]))]
      ·simp only[lZ,aba] at he
       subst he
       exact⟨_,_,rows,hblk,by rw[ct,if_pos rfl],⟨_,xs,G,hu,how,hr,hG,hob⟩,λ_ h=>h⟩
      simp only[lZ,aba] at he lu
      exact absurd (he.trans lu.symm) hne
   cases hb
  ·cases hb
  rename_i h1 h2
  exact(h1 d rfl).elim
 have e1:tp bl c c'=some bl:=by cases c<;>first | rfl | exact absurd ⟨_,rfl⟩ hown
 have e2:lZ c=[]:=by cases c<;>first | rfl | exact absurd ⟨_,rfl⟩ hown
 rw[e1] at hb
 cases hb
 rw[e2]
 exact .nil
theorem HT {J:Ft}{ph:List (Nat × aO)}:∀{l l':List PV} {vs:List Value} {F:Ft} {bl cy:List (Nat × aO)},aG w I val ph l vs->ye bl l l'=some cy->bE w' J l' vs F->(tm l).Nodup->oj w' J val bl cy (tm l) F
 | _,[],_,_,_,_,.nil,hb,_,_=>by simp only[ye,aaQ.injEq] at hb;subst hb;exact .nil
 | _,c'::l',_,_,_,_,.nil,hb,_,_=>by simp[ye] at hb
 | _,[],_,_,_,_,.cons c l v vs hc t,hb,_,_=>by simp[ye] at hb
 | _,c'::l',_,_,_,_,.cons c l v vs hc t,hb,.cons _ _ _ _ F G H h1 h2 hF hG hd,hn=>by
  simp only[ye] at hb
  split at hb
  ·rename_i TF gg
   exact(HS hc gg h1).cons (HT t hb h2 (ab8.1 hn).2.1) hn hd hF hG
  cases hb
theorem P7 {J:Ft}{ph bl cy:List (Nat × aO)}{c c':PV}{v:Value}{F:Ft}(hc:bI w I val ph c v)(hb:JJ bl c c'=some cy)(hv:jD w' J c' v F)(hn:(tn c).Nodup):oj w' J val bl cy (tn c) F:=by
 by_cases hagg:∃ cs,c=.agg cs
 ·obtain⟨cs,rfl⟩:=hagg
  unfold JJ at hb
  split at hb
  ·rename_i cs0 cx hq
   cases hq
   cases hc with
   | leaf c v hlf hv=>cases hlf
   | agg cs vs hs=>
    cases hv with
    | one _ _ _ h=>cases h
    | agg _ _ _ h=>exact HT hs hb (by simpa using h) hn
  ·cases hb
  rename_i h1 h2
  exact(h1 cs rfl).elim
 have e1:JJ bl c c'=tp bl c c':=by cases c<;>first | rfl | exact absurd ⟨_,rfl⟩ hagg
 have e2:tn c=lZ c:=by cases c<;>first | rfl | exact absurd ⟨_,rfl⟩ hagg
 rw[e1] at hb
 rw[e2]
 cases hv with
 | one _ _ _ h=>exact HS hc hb h
 | agg cs vs F h=>
  have e3:lZ c=[]:=by
   cases c with
   | own d=>unfold tp at hb;cases hb
   | _=>rfl
  have e4:cy=bl:=by
   cases c with
   | own d=>unfold tp at hb;cases hb
   | _=>unfold tp at hb;simpa using hb.symm
  rw[e3,e4]
  exact .nil
theorem HU {J:Ft}{ph:List (Nat × aO)}:∀{l l':List PV} {vs:List Value} {F:Ft} {bl cy:List (Nat × aO)},aG w I val ph l vs->vj bl l l'=some cy->iE w' J l' vs F->(pA l).Nodup->oj w' J val bl cy (pA l) F
 | _,[],_,_,_,_,.nil,hb,_,_=>by simp only[vj,aaQ.injEq] at hb;subst hb;exact .nil
 | _,c'::l',_,_,_,_,.nil,hb,_,_=>by simp[vj] at hb
 | _,[],_,_,_,_,.cons c l v vs hc t,hb,_,_=>by simp[vj] at hb
 | _,c'::l',_,_,_,_,.cons c l v vs hc t,hb,.cons _ _ _ _ F G H h1 h2 hF hG hd,hn=>by
  simp only[vj] at hb
  split at hb
  ·rename_i TF gg
   exact(P7 hc gg h1 (ab8.1 hn).1).cons (HU t hb h2 (ab8.1 hn).2.1) hn hd hF hG
  cases hb
theorem bz.back (h:bz B W0 I0 I val fs σ a w){ds:List Nat}{cy:List (Nat × aO)}{J F:Ft}(hB:oj w' J val σ.bl cy ds F)(hF:∀ x,F x->(Of fs ds x\/w.heap.size<=x)/\x < w'.heap.size)
  (hJ:∀ x,J x->(I x\/Of fs ds x\/w.heap.size<=x)/\x < w'.heap.size/\¬ F x) (hK:Kept (λx=>Of fs ds x\/w.heap.size<=x) w w'):
  ∃ gP,bz B W0 I0 (λx=>I x\/J x) val gP {σ with bl:=cy} a w':=by
 obtain⟨fn,h1,h2,h3⟩:=hB
 have xn:∀ x,Of fs ds x->(∃ d b,d∈ds/\av σ.bl d=some b/\fs d x):=by
  rintro x ⟨d,hd,hx⟩
  obtain⟨_,_,_,hb,_⟩:=h2 d hd
  exact⟨d,_,hd,hb,hx⟩
 have hfree:∀ x,x < w.heap.size->¬ Of fs ds x->w'.heap[x]? =w.heap[x]? :=λx hx hn=>hK.block x λh=>h.elim hn λh=>by omega
 have Z3:∀ x,I x->¬ Of fs ds x:=by
  rintro x hx ho
  obtain⟨d,b,_,hb,hf⟩:=xn x ho
  exact h.dt d b hb x hf hx
 have AA:bw I w w':=λx hx=>hfree x (h.lt x hx) (Z3 x hx)
 have gj:∀ x,I x->I x\/J x:=λx hx=>.inl hx
 have hE:Ext σ.bl cy val val:=by
  intro d b hb
  refine⟨?_,rfl⟩
  by_cases hd:d∈ds
  ·obtain⟨sz,rows,dI,q1,q2,_⟩:=h2 d hd
   rw[hb] at q1
   cases q1
   exact⟨_,q2,rfl,rfl⟩
  exact⟨b,by rw[h1 d hd];exact hb,rfl,rfl⟩
 have e1:∀ d∈ds,(if d∈ds then fn d else fs d)=fn d:=λd h=>if_pos h
 have e2:∀ d,d ∉ ds->(if d∈ds then fn d else fs d)=fs d:=λd h=>if_neg h
 have hold:∀ d b,d ∉ ds->av σ.bl d=some b->∀ x,fs d x->¬ Of fs ds x:=by
  rintro d b hd hb x hx ho
  obtain⟨e,b',he,cP,hf⟩:=xn x ho
  exact h.bX d e b b' hb cP (λh0=>hd (h0 ▸ he)) x hx hf
 have EC:∀ x,F x->B x:=by
  intro x hx
  rcases(hF x hx).1 with ho | hn
  ·obtain⟨e,b',he,cP,hf⟩:=xn x ho
   exact(h.new e b' cP x hf).1
  exact h.size x hn
 have hKB:Kept B w w':=hK.mono λx hx=>by
  rcases hx with ho | hn
  ·obtain⟨e,b',he,cP,hf⟩:=xn x ho
   exact(h.new e b' cP x hf).1
  exact h.size x hn
 refine⟨λd=>if d∈ds then fn d else fs d,{cC:=aG.frame AA gj hE h.cC,blocks:=λd b hb=>?_,bX:=λd d' b b' hb cP hne x hx aX=>?_,dt:=λd b hb x hx hi=>?_,new:=λd b hb x hx=>?_,lt:=λx hx=>?_,eJ:=λx hx=>?_,below:=h.below.trans hKB,size:=λx hx=>h.size x (acf hK.size hx),dP:=λd v hv=>?_,defers:=h.defers}⟩
 ·have hb:av cy d=some b:=hb
  by_cases hd:d∈ds
  ·obtain⟨sz,rows,dI,q1,q2,q3,_⟩:=h2 d hd
   rw[q2] at hb
   cases hb
   simp only[e1 d hd]
   exact yg.frame (bw.refl _ _) (λx hx=>.inr hx) (bw.refl _ _) q3
  simp only[e2 d hd]
  rw[h1 d hd] at hb
  exact(h.blocks d b hb).frame AA gj hE λx hx=>hfree x (h.new d b hb x hx).2 (hold d b hd hb x hx)
 ·have hb:av cy d=some b:=hb
  have cP:av cy d'=some b':=cP
  by_cases hd:d∈ds<;>by_cases nL:d'∈ds
  ·simp only[e1 d hd] at hx
   simp only[e1 d' nL] at aX
   exact h3 d hd d' nL hne x hx aX
  ·simp only[e1 d hd] at hx
   simp only[e2 d' nL] at aX
   rw[h1 d' nL] at cP
   obtain⟨_,_,_,_,_,_,q⟩:=h2 d hd
   rcases(hF x (q x hx)).1 with ho | hn
   ·exact hold d' b' nL cP x aX ho
   have:=(h.new d' b' cP x aX).2;omega
  ·simp only[e2 d hd] at hx
   simp only[e1 d' nL] at aX
   rw[h1 d hd] at hb
   obtain⟨_,_,_,_,_,_,q⟩:=h2 d' nL
   rcases(hF x (q x aX)).1 with ho | hn
   ·exact hold d b hd hb x hx ho
   have:=(h.new d b hb x hx).2;omega
  simp only[e2 d hd] at hx
  simp only[e2 d' nL] at aX
  rw[h1 d hd] at hb
  rw[h1 d' nL] at cP
  exact h.bX d d' b b' hb cP hne x hx aX
 ·have hb:av cy d=some b:=hb
  by_cases hd:d∈ds
  ·simp only[e1 d hd] at hx
   obtain⟨_,_,_,_,_,_,q⟩:=h2 d hd
   have Z4:=q x hx
   rcases hi with hi | hi
   ·rcases(hF x Z4).1 with ho | hn
    ·exact Z3 x hi ho
    have:=h.lt x hi;omega
   exact(hJ x hi).2.2 Z4
  simp only[e2 d hd] at hx
  rw[h1 d hd] at hb
  rcases hi with hi | hi
  ·exact h.dt d b hb x hx hi
  rcases(hJ x hi).1 with hi | ho | hn
  ·exact h.dt d b hb x hx hi
  ·exact hold d b hd hb x hx ho
  have:=(h.new d b hb x hx).2;omega
 ·have hb:av cy d=some b:=hb
  by_cases hd:d∈ds
  ·simp only[e1 d hd] at hx
   obtain⟨_,_,_,_,_,_,q⟩:=h2 d hd
   exact⟨EC x (q x hx),(hF x (q x hx)).2⟩
  simp only[e2 d hd] at hx
  rw[h1 d hd] at hb
  exact⟨(h.new d b hb x hx).1,abg (h.new d b hb x hx).2 hK.size⟩
 ·rcases hx with hx | hx
  ·exact abg (h.lt x hx) hK.size
  exact(hJ x hx).2.1
 ·rcases hx with hx | hx
  ·exact h.eJ x hx
  rcases(hJ x hx).1 with hi | ho | hn
  ·exact h.eJ x hi
  ·obtain⟨e,b',he,cP,hf⟩:=xn x ho
   exact .inr (h.new e b' cP x hf).1
  exact .inr (h.size x hn)
 obtain⟨q1,b,q2⟩:=h.dP d v hv
 obtain⟨⟨b',q3,_⟩,_⟩:=hE d b q2
 exact⟨q1,b',q3⟩
theorem bE.MH :∀{l:List PV} {vs:List Value} {F:Ft},bE w I l vs F->∀(k:Nat) {c:PV},l[k]? =some c->(∀ u G,dj w I c u G->u.oneCell'=true)->
  ∃ u F1 G1,vs[k]? =some u/\dj w I c u F1/\bE w I (bT l k (.raw u)) vs G1/\(∀ x,F1 x->F x)/\(∀ x,G1 x->F x)/\∀ x,F1 x->¬ G1 x
 | _,_,_,.nil F,k,c,h,_=>by simp at h
 | _,_,_,.cons c l v vs F G H hc t hF hG hd,0,c',h,h1=>by
  simp only[ab3,aaQ.injEq] at h
  subst h
  exact⟨v,F,G,rfl,hc,.cons _ _ _ _ bf G G (.raw _ _ (h1 v F hc)) t (λx hx=>hx.elim) (λx hx=>hx) (λx hx=>hx.elim),hF,hG,hd⟩
 | _,_,_,.cons c l v vs F G H hc t hF hG hd,k+1,c',h,h1=>by
  simp only[List.getElem?_cons_succ] at h
  obtain⟨u,F1,G1,q1,q2,q3,q4,q5,q6⟩:=t.MH k h h1
  refine⟨u,F1,λx=>F x\/G1 x,by simpa using q1,q2,.cons _ _ _ _ F G1 _ hc q3 (λx hx=>.inl hx) (λx hx=>.inr hx) (λx hx hg=>hd x hx (q5 x hg)),λx hx=>hG x (q4 x hx),λx hx=>hx.elim (hF x) (λh=>hG x (q5 x h)),λx hx hy=>?_⟩
  rcases hy with hy | hy
  ·exact hd x hy (q4 x hx)
  exact q6 x hx hy
theorem UE {w:World}{I:Ft}{v u:Value}{F:Ft}(h:dj w I (.raw v) u F):u=v:=by cases h;rfl
theorem bE.TG :∀{l:List PV} {vs:List Value} {F:Ft},bE w I l vs F->∀(k:Nat) {v:Value},l[k]? =some (.raw v)->vs[k]? =some v
 | _,_,_,.nil F,k,v,h=>by simp at h
 | _,_,_,.cons c l u vs F G H hc t hF hG hd,0,v,h=>by
  simp only[ab3,aaQ.injEq] at h
  subst h
  rw[UE hc];rfl
 | _,_,_,.cons c l u vs F G H hc t hF hG hd,k+1,v,h=>by
  simpa using t.TG k (by simpa using h)
theorem CM {sz:Nat}{rows:List (List PV)}(hu:∀ r∈rows,r.length=sz){i:Nat}{r:List PV}(hr:rows[i]? =some r){j:Nat}(hj:j < r.length)(c:PV):
 (rows.set i (bT r j c)).flatten=bT rows.flatten (i * sz+j) c:=wJ rows hu i r hr j c hj
theorem CN {sz:Nat}{rows:List (List PV)}(hu:∀ r∈rows,r.length=sz){i:Nat}{r:List PV}(hr:rows[i]? =some r)(j:Nat)(c:PV):∀ r'∈rows.set i (bT r j c),r'.length=sz:=by
 intro r' nT
 rcases List.mem_or_eq_of_mem_set nT with h | h
 ·exact hu r' h
 rw[h,kK];exact hu r (abx hr)
theorem bz.nest (h:bz B W0 I0 I val fs σ a w){d dd i j sz s:Nat}{rows nrows:List (List PV)}{r:List PV}(hd:av σ.bl d=some ⟨.arr,sz,rows⟩)(hr:rows[i]? =some r)(hj:r[j]? =some (.ow s nrows))(hdd:av σ.bl dd=none):
  ∃ u g,jJ (val d)=some g/\w.cell? ⟨g,i * sz+j,none⟩=some u/\∃ cr gP,bz B W0 I0 I cr gP {σ with bl:=(dd,⟨.arr,s,nrows⟩)::cg σ.bl d ⟨.arr,sz,rows.set i (bT r j (.raw u))⟩,hd:=(dd,u)::σ.hd} a w/\cr dd=u:=by
 obtain⟨e,xs,G,hu,how,hR,hG,hob⟩:=h.blocks d _ hd
 have hrl:=hu r (abx hr)
 have hjl:j < r.length:=(aaZ.1 hj).1
 have hfl:rows.flatten[i * sz+j]? =some (.ow s nrows):=by rw[flat_get rows hu i r hr j hjl];exact hj
 obtain⟨u,F1,G1,q1,q2,q3,q4,q5,q6⟩:=hR.MH (i * sz+j) hfl (λu G hu=>by
  cases hu with
  | ow sz rows v e xs F G hu how hr hG hb=>rcases how.2 with ⟨rfl,_⟩ | ⟨g,cap,cur,rfl,_⟩<;>rfl)
 have hne:d≠dd:=by rintro rfl;rw[hd] at hdd;cases hdd
 have hi:=(aaZ.1 hr).1
 obtain⟨g,hg,hog⟩:∃ g,jJ (val d)=some g/\(val d).ownBlock=some g:=by
  rcases how.2 with ⟨hv,hn⟩ | ⟨g,cap,cur,hv,_⟩
  ·omega
  rw[hv];exact⟨g,rfl,rfl⟩
 have hcell:w.cell? ⟨g,i * sz+j,none⟩=some u:=by
  have:=how.cells hog (i * sz+j) u q1
  rwa [Addr.add_mid,Nat.zero_add] at this
 have On:∀ x,F1 x->fs d x:=λx hx=>hG x (q4 x hx)
 refine⟨u,g,hg,hcell,eD val dd u,eD (eD fs d (λx=>fs d x/\¬ F1 x)) dd F1,?_,cb _ _ _⟩
 have hE:Ext σ.bl ((dd,⟨.arr,s,nrows⟩)::cg σ.bl d ⟨.arr,sz,rows.set i (bT r j (.raw u))⟩) val (eD val dd u):=by
  intro e' b hb
  have Oo:e'≠dd:=by rintro rfl;rw[hdd] at hb;cases hb
  refine⟨?_,di _ _ Oo⟩
  rw[bQ,if_neg (abG Oo),ct]
  by_cases h0:d=e'
  ·subst h0;rw[hd] at hb;cases hb;rw[if_pos rfl];exact⟨_,rfl,rfl,rfl⟩
  rw[if_neg h0];exact⟨b,hb,rfl,rfl⟩
 have look:∀ e' c,av ((dd,(⟨.arr,s,nrows⟩:aO))::cg σ.bl d ⟨.arr,sz,rows.set i (bT r j (.raw u))⟩) e'=some c->
   (e'=dd/\c=⟨.arr,s,nrows⟩)\/(e'=d/\c=⟨.arr,sz,rows.set i (bT r j (.raw u))⟩)\/(e'≠dd/\e'≠d/\av σ.bl e'=some c):=by
  intro e' c hc
  rw[bQ] at hc
  by_cases h0:dd=e'
  ·rw [if_pos h0] at hc;exact .inl ⟨h0.symm,by simpa using hc.symm⟩
  rw[if_neg h0,ct] at hc
  by_cases h1:d=e'
  ·rw [if_pos h1] at hc;exact .inr (.inl ⟨h1.symm,by simpa using hc.symm⟩)
  rw[if_neg h1] at hc;exact .inr (.inr ⟨abG h0,abG h1,hc⟩)
 have f1:eD (eD fs d (λx=>fs d x/\¬ F1 x)) dd F1 dd=F1:=cb _ _ _
 have f2:eD (eD fs d (λx=>fs d x/\¬ F1 x)) dd F1 d=λx=>fs d x/\¬ F1 x:=by rw[di _ _ hne,cb]
 have f3:∀ e',e'≠dd->e'≠d->eD (eD fs d (λx=>fs d x/\¬ F1 x)) dd F1 e'=fs e':=λe' h1 h2=>by rw[di _ _ h1,di _ _ h2]
 refine{cC:=aG.frame (bw.refl _ _) (λ_ h=>h) hE h.cC,blocks:=λe' c hc=>?_,bX:=λe1 e2 c1 c2 jI aJ Oq x hx aX=>?_,dt:=λe' c hc x hx=>?_,new:=λe' c hc x hx=>?_,lt:=h.lt,eJ:=h.eJ,below:=h.below,size:=h.size,dP:=λe' v hv=>?_,defers:=h.defers}
 ·rcases look e' c hc with ⟨rfl,rfl⟩ | ⟨rfl,rfl⟩ | ⟨h1,h2,h3⟩
  ·rw [f1,cb]
   cases q2 with
   | ow s nrows v e2 VM F G2 VN Sl fT P8 sS=>exact⟨e2,VM,G2,VN,Sl,fT,P8,sS⟩
  ·rw [f2,di _ _ hne]
   refine⟨e,xs,G1,CN hu hr j _,by rw[List.length_set];exact how,by rw[CM hu hr hjl];exact q3,λx hx=>⟨hG x (q5 x hx),λhf=>q6 x hf hx⟩,λb hb=>?_⟩
   obtain⟨p1,p2⟩:=hob b hb
   exact⟨⟨p1,λhf=>p2 (q4 b hf)⟩,λTD=>p2 (q5 b TD)⟩
  rw[f3 e' h1 h2,di _ _ h1]
  exact(h.blocks e' c h3).frame (bw.refl _ _) (λ_ h=>h) hE (bw.refl _ _)
 ·rcases look e1 c1 jI with ⟨rfl,rfl⟩ | ⟨rfl,rfl⟩ | ⟨p1,p2,p3⟩<;>rcases look e2 c2 aJ with ⟨rfl,rfl⟩ | ⟨rfl,rfl⟩ | ⟨r1,r2,r3⟩
  ·exact Oq rfl
  ·rw [f1] at hx;rw[f2] at aX;exact aX.2 hx
  ·rw [f1] at hx;rw[f3 e2 r1 r2] at aX;exact h.bX _ _ _ _ hd r3 (abG r2) x (On x hx) aX
  ·rw [f2] at hx;rw[f1] at aX;exact hx.2 aX
  ·exact Oq rfl
  ·rw [f2] at hx;rw[f3 e2 r1 r2] at aX;exact h.bX _ _ _ _ hd r3 (abG r2) x hx.1 aX
  ·rw [f3 e1 p1 p2] at hx;rw[f1] at aX;exact h.bX _ _ _ _ p3 hd p2 x hx (On x aX)
  ·rw [f3 e1 p1 p2] at hx;rw[f2] at aX;exact h.bX _ _ _ _ p3 hd p2 x hx aX.1
  rw[f3 e1 p1 p2] at hx;rw[f3 e2 r1 r2] at aX;exact h.bX _ _ _ _ p3 r3 Oq x hx aX
 ·rcases look e' c hc with ⟨rfl,rfl⟩ | ⟨rfl,rfl⟩ | ⟨h1,h2,h3⟩
  ·rw [f1] at hx;exact h.dt _ _ hd x (On x hx)
  ·rw [f2] at hx;exact h.dt _ _ hd x hx.1
  rw[f3 e' h1 h2] at hx;exact h.dt _ _ h3 x hx
 ·rcases look e' c hc with ⟨rfl,rfl⟩ | ⟨rfl,rfl⟩ | ⟨h1,h2,h3⟩
  ·rw [f1] at hx;exact h.new _ _ hd x (On x hx)
  ·rw [f2] at hx;exact h.new _ _ hd x hx.1
  rw[f3 e' h1 h2] at hx;exact h.new _ _ h3 x hx
 have hv:hY ((dd,u)::σ.hd) e'=some v:=hv
 rw[qE] at hv
 by_cases h0:dd=e'
 ·subst h0
  rw[if_pos rfl] at hv
  cases hv
  exact⟨cb _ _ _,_,by rw[bQ,if_pos rfl]⟩
 rw[if_neg h0] at hv
 obtain⟨p1,b,p2⟩:=h.dP e' v hv
 obtain⟨⟨b',p3,_⟩,_⟩:=hE e' b p2
 exact⟨by rw[di _ _ (abG h0)];exact p1,b',p3⟩
theorem zp {α:Type}:∀(l:List α) (k:Nat) (x:α),l[k]? =some x->l.set k x=l
 | [],_,_,_=>rfl
 | y::l,0,x,h=>by simp at h;simp[h]
 | y::l,k+1,x,h=>by simp at h;simp[zp l k x h]
theorem bz.Sm (h:bz B W0 I0 I val fs σ a w){D d i j sz s:Nat}{rows nrows:List (List PV)}{r:List PV}{v:Value}(hD:av σ.bl D=some ⟨.arr,s,nrows⟩)(hv:hY σ.hd D=some v)(hd:av (σ.drop D).bl d=some ⟨.arr,sz,rows⟩)
  (hr:rows[i]? =some r) (hj:r[j]? =some (.raw v)) (hne:D≠d):∃ gP,bz B W0 I0 I val gP {σ.drop D with bl:=cg (σ.drop D).bl d ⟨.arr,sz,rows.set i (bT r j (.ow s nrows))⟩} a w:=by
 have h1:=h.drop D
 obtain⟨e,xs,G,hu,how,hR,hG,hob⟩:=h1.blocks d _ hd
 obtain⟨e2,VM,G2,VN,Sl,nW,P8,aai⟩:=h.blocks D _ hD
 have hvD:=(h.dP D v hv).1
 have hjl:j < r.length:=(aaZ.1 hj).1
 have hfl:rows.flatten[i * sz+j]? =some (.raw v):=by rw[flat_get rows hu i r hr j hjl];exact hj
 have hxv:=hR.TG (i * sz+j) hfl
 have hdisj:∀ x,fs D x->¬ fs d x:=by
  obtain⟨b,hb⟩:∃ b,av σ.bl d=some b:=by
   have nL:av (fX D (iC σ.bl D)) d=some ⟨.arr,sz,rows⟩:=hd
   rw[gw,gb,if_neg hne] at nL
   cases hq:av σ.bl d with
   | none=>rw[hq] at nL;cases nL
   | some b=>exact⟨b,rfl⟩
  exact λx hx aX=>h.bX D d _ _ hD hb hne x hx aX
 have hrel:bE w I (bT rows.flatten (i * sz+j) (.ow s nrows)) xs (λb=>G b\/fs D b):=by
  have:=hR.set (i * sz+j) (c:=.ow s nrows) (v:=v) (F:=fs D) (by rw[<- hvD];exact .ow s nrows (val D) e2 VM (fs D) G2 VN Sl nW P8 aai) (λb hb hg=>hdisj b hb (hG b hg))
  rwa [zp xs _ v hxv] at this
 refine⟨_,h1.Ez hd (b':=⟨.arr,sz,rows.set i (bT r j (.ow s nrows))⟩) rfl rfl (λ_ _=>rfl) (Kept.refl _ _) (F:=λx=>fs d x\/fs D x)
  ⟨e,xs,_,CN hu hr j _,by rw[List.length_set];exact how,by rw[CM hu hr hjl];exact hrel,λx hx=>Or.imp (hG x) (λh=>h) hx,λb hb=>?_⟩
  (λx hx=>by rcases hx with hx | hx;exact h1.new d _ hd x hx;exact h.new D _ hD x hx) (λx hx=>by rcases hx with hx | hx;exact h1.dt d _ hd x hx;exact h.dt D _ hD x hx) (λx hx e' c Oo hc=>?_)⟩
 ·obtain⟨p1,p2⟩:=hob b hb
  exact⟨.inl p1,λh=>h.elim p2 λh=>hdisj b h p1⟩
 rcases hx with hx | hx
 ·exact h1.bX _ _ _ _ hd hc (abG Oo) x hx
 have mz:av (fX D (iC σ.bl D)) e'=some c:=hc
 rw[gw,gb] at mz
 by_cases h0:D=e'
 ·rw [if_pos h0] at mz;cases mz
 rw[if_neg h0] at mz
 cases hq:av σ.bl e' with
 | none=>rw[hq] at mz;cases mz
 | some b=>exact h.bX D e' _ _ hD hq h0 x hx
end
def Gp (P : Program) (g : Nat) : Prop := P.globalNamed "internal/strconv.uint64pow10" = some g \/ P.globalNamed "internal/bytealg.MaxLen" = some g
def aam :List Int:=(List.range 20).map λi=>((10 ^ i:Nat):Int)
structure Inv (P:Program)(w:World):Prop where
 lt:∀ g,Gp P g->g < w.heap.size
 Z8 : ∀ g, P.globalNamed "internal/strconv.uint64pow10" = some g -> w.var? P "internal/strconv.uint64pow10" = some (aam.map λz => Value.int .u64 z).toArray
 max : ∀ g, P.globalNamed "internal/bytealg.MaxLen" = some g -> ∃ m, w.cell? ⟨g, 0, none⟩ = some (.int .i64 m)
theorem Inv.kept {P:Program}{B:Ft}{W0 w:World}(h:Inv P W0)(hk:Kept B W0 w)(hB:∀ g,Gp P g->¬ B g):Inv P w where
 lt g hg:=abg (h.lt g hg) hk.size
 Z8 g hg:=by
  have h1:=h.Z8 g hg
  have h2:=hk.block g (hB g (.inl hg))
  unfold World.var? at h1 ⊢
  rw[hg] at h1 ⊢
  simp only[Option.bind_some] at h1 ⊢
  rw[h2];exact h1
 max g hg:=by
  obtain⟨m,hm⟩:=h.max g hg
  exact⟨m,by rw[World.cell?_of_block (hk.block g (hB g (.inr hg)))];exact hm⟩
def Real (P:Program)(g:FuncId)(args:List PV)(r:PV):Prop:=
 (∃ fn c, P.funcs[g]? = some fn /\ fn.body = some c /\ (fn.name == "runtime.NumGoroutine") = false) /\
 ∀(w:World),Inv P w->∀(I:Ft) (vs:List Value) (val:Nat->Value),aG w I val [] args vs->(∀ x,I x->x < w.heap.size)->
  Calls P g vs.toArray w λe w'=>match e with
   | .returned v=>∃ J F,jK w' J r v F/\(∀ x,F x->w.heap.size<=x/\x < w'.heap.size)/\(∀ x,J x->(I x\/w.heap.size<=x)/\x < w'.heap.size/\¬ F x)/\Below w.heap.size w w'
   | _=>False
def fo (P:Program)(g:FuncId)(args az:List PV)(r:PV):Prop:=
 (∃ fn c, P.funcs[g]? = some fn /\ fn.body = some c /\ (fn.name == "runtime.NumGoroutine") = false) /\
 ∀(w:World),Inv P w->∀(I F:Ft),(∀ x,F x->¬ Gp P x)->∀(vs:List Value),iE w I args vs F->(∀ x,I x->x < w.heap.size)->(∀ x,F x->x < w.heap.size/\¬ I x)->
  Calls P g vs.toArray w λe w'=>match e with
   | .returned v=>∃ J F',jK w' J r v bf/\iE w' J az vs F'/\(∀ x,F' x->(F x\/w.heap.size<=x)/\x < w'.heap.size)/\(∀ x,J x->(I x\/F x\/w.heap.size<=x)/\x < w'.heap.size/\¬ F' x)/\Kept (λx=>F x\/w.heap.size<=x) w w'
   | _=>False
def jh (P:Program)(g:FuncId)(args:List PV)(r:PV):Prop:=
 (∃ fn c, P.funcs[g]? = some fn /\ fn.body = some c /\ (fn.name == "runtime.NumGoroutine") = false) /\
 ∀(w:World),Inv P w->∀(I F:Ft),(∀ x,F x->¬ Gp P x)->∀(vs:List Value),iE w I args vs F->(∀ x,I x->x < w.heap.size)->(∀ x,F x->x < w.heap.size/\¬ I x)->
  Calls P g vs.toArray w λe w'=>match e with
   | .returned v=>∃ J F',jK w' J r v F'/\(∀ x,F' x->(F x\/w.heap.size<=x)/\x < w'.heap.size)/\(∀ x,J x->(I x\/F x\/w.heap.size<=x)/\x < w'.heap.size/\¬ F' x)/\Kept (λx=>F x\/w.heap.size<=x) w w'
   | _=>False
def jA (P:Program)(g:FuncId)(cs args cx:List PV)(r:PV):Prop:=
 (∃ fn c, P.funcs[g]? = some fn /\ fn.body = some c /\ (fn.name == "runtime.NumGoroutine") = false) /\
 ∀(w:World),Inv P w->∀(I F:Ft) (b:Nat) (t:TypeId) (c:Array Value) (vs:List Value) (val:Nat->Value),(∀ x,F x\/x=b->¬ Gp P x)->w.heap[b]? =some (.cells c t (0,0))->bE w I cs c.toList F->aG w I val [] args vs->
  (∀ x,I x->x < w.heap.size)->(∀ x,F x\/x=b->x < w.heap.size/\¬ I x)->¬ F b->
  Calls P g (Value.pointer (some ⟨b,0,none⟩)::vs).toArray w λe w'=>match e with
   | .returned v=>∃ J F' c' t',w'.heap[b]? =some (.cells c' t' (0,0))/\bE w' J cx c'.toList F'/\jK w' J r v bf/\(∀ x,F' x->(F x\/w.heap.size<=x)/\x < w'.heap.size)/\(∀ x,J x->(I x\/F x\/w.heap.size<=x)/\x < w'.heap.size/\¬ F' x)/\Kept (λx=>(F x\/x=b)\/w.heap.size<=x) w w'
   | _=>False
structure uz (P:Program)(X:Spec):Prop where
 r:∀ g args r,X.r g args r->Real P g args r
 m:∀ g args az r,X.m g args az r->fo P g args az r
 c:∀ g args r,X.c g args r->jh P g args r
 v:∀ g cs args cx r,X.v g cs args cx r->jA P g cs args cx r
structure jd (P:Program)(X:Spec)(B:Ft)(W0:World):Prop where
 real:uz P X
 inv:Inv P W0
 KJ:∀ g,Gp P g->¬ B g
theorem jd.at {P:Program}{X:Spec}{B:Ft}{W0 w:World}(h:jd P X B W0)(hk:Kept B W0 w):Inv P w:=h.inv.kept hk h.KJ
section
variable {P : Program} {T : dA} {X : Spec} {B : Ft} {W0 : World} {I0 : Ft} {I : Ft} {val : Nat -> Value} {fs : Nat -> Ft} {σ aA : St} {a : Act} {w w' : World} {o : Oper}
theorem jD.fresh {J J':Ft}{c:PV}{v:Value}{F:Ft}(h:jD w J c v F)(hf:Av.fresh c):jD w J' c v F:=by
 cases h with
 | one c v F h=>exact .one _ _ _ (h.fresh hf)
 | agg cs vs F h=>exact .agg _ _ _ (h.fresh hf)
theorem iE.fresh {J J':Ft}:∀{l:List PV} {vs:List Value} {F:Ft},iE w J l vs F->Av.cj l->iE w J' l vs F
 | _,_,_,.nil F,_=>.nil F
 | _,_,_,.cons c l v vs F G H h t hF hG d,hf=>.cons c l v vs F G H (h.fresh hf.1) (iE.fresh t hf.2) hF hG d
theorem jK.fresh {J J':Ft}{c:PV}{v:Value}{F:Ft}(h:jK w J c v F)(hf:Av.fresh c):jK w J' c v F:=by
 cases h with
 | one c v F h=>exact .one _ _ _ (h.fresh hf)
 | aw cs vs F h=>exact .aw _ _ _ (h.fresh hf)
theorem jD.tB {J J':Ft}(hJ:∀ x,J x->J' x){c:PV}{v:Value}{F:Ft}(h:jD w J c v F):jD w J' c v F:=by
 cases h with
 | one c v F h=>exact .one _ _ _ (h.frame (bw.refl _ _) hJ (bw.refl _ _))
 | agg cs vs F h=>exact .agg _ _ _ (h.frame (bw.refl _ _) hJ (bw.refl _ _))
theorem iE.tB {J J':Ft}(hJ:∀ x,J x->J' x):∀{l:List PV} {vs:List Value} {F:Ft},iE w J l vs F->iE w J' l vs F
 | _,_,_,.nil F=>.nil F
 | _,_,_,.cons c l v vs F G H h t hF hG d=>.cons c l v vs F G H (h.tB hJ) (iE.tB hJ t) hF hG d
theorem jK.tB {J J':Ft}(hJ:∀ x,J x->J' x){c:PV}{v:Value}{F:Ft}(h:jK w J c v F):jK w J' c v F:=by
 cases h with
 | one c v F h=>exact .one _ _ _ (h.tB hJ)
 | aw cs vs F h=>exact .aw _ _ _ (h.tB hJ)
mutual
theorem bI.zV {cr:Nat->Value}{bl:List (Nat × aO)}:∀{c:PV} {v:Value},bI w I val bl c v->Av.zV c=true->bI w I cr [] (Av.view bl c) v
 | _,_,.leaf c v hl h,_=>by
  have hv:Av.view bl c=c:=by cases c<;>first | rfl | simp[bG] at hl
  rw[hv]
  exact .leaf _ _ hl h
 | _,_,.own d b hb hk,hn=>by cases hn
 | _,_,.pt d i j b g hb hg,hn=>by cases hn
 | _,_,.rd cs a vs hb hs hc hr,_=>.rd cs a vs hb hs hc hr
 | _,_,.agg cs vs h,hn=>.agg _ vs (aG.zV h hn)
 | _,_,.aw cs vs h,hn=>.aw _ vs (aG.zV h hn)
 | _,_,.fn f cs vs h,hn=>.fn f _ vs (aG.zV h hn)
 | _,_,.aa v,_=>.aa v
theorem aG.zV {cr:Nat->Value}{bl:List (Nat × aO)}:∀{l:List PV} {vs:List Value},aG w I val bl l vs->Av.iT l=true->aG w I cr [] (fD bl l) vs
 | _,_,.nil,_=>.nil
 | _,_,.cons c l v vs h t,hn=>by
  simp only[iT,aaR] at hn
  exact .cons _ _ v vs (bI.zV h hn.1) (aG.zV t hn.2)
end
theorem aG.OD (h:bz B W0 I0 I val fs σ a w):∀ l:List Operand,aG w I val σ.bl (l.map σ.get) (l.map a.eval)
 | []=>.nil
 | x::l=>.cons _ _ _ _ (h.eval x) (aG.OD h l)
theorem Ql {f:FuncId}{cs:List PV}{v:Value}{bl:List (Nat × aO)}(h:bI w I val bl (.fn f cs) v):∃ vs,v=.func (.func f) #[] (List.toArray vs)/\aG w I val bl cs vs:=by
 cases h with
 | leaf c v hl h=>simp[bG] at hl
 | fn f cs vs h=>exact⟨vs,rfl,h⟩
theorem bz.bind (h:bz B W0 I0 I val fs σ a w){d:Nat}{r:PV}{v:Value}{J F:Ft}(hr:jK w' J r v F)(hF:∀ x,F x->w.heap.size<=x/\x < w'.heap.size)
  (hJ:∀ x,J x->(I x\/w.heap.size<=x)/\x < w'.heap.size/\¬ F x) (hb:Below w.heap.size w w') (hfree:cV σ.bl (gH true d r).2=true):eo B W0 I0 (σ.bind d r) (a.put (some d) v) w':=by
 have h1:=h.grow hb
 have hsz:w.heap.size<=w'.heap.size:=hb.size
 have h2:=h1.J7 (I':=λx=>I x\/J x) (λx hx=>.inl hx) (λx hx=>by
  rcases hx with hx | hx
  ·exact h1.lt x hx
  ·exact(hJ x hx).2.1) (λx hx=>by
  rcases hx with hx | hx
  ·exact h.eJ x hx
  ·rcases(hJ x hx).1 with hi | hi
   ·exact h.eJ x hi
   exact .inr (h.size _ hi)) (λe b he x hx hi=>by
  rcases hi with hi | hi
  ·exact h.dt e b he x hx hi
  rcases(hJ x hi).1 with iX | iX
  ·exact h.dt e b he x hx iX
  have:=(h.new e b he x hx).2;omega)
 obtain⟨cr,gP,h3,h4⟩:=Hy h2 (id:=d) (hr.tB λx hx=>.inr hx) (λx hx=>⟨h.size _ (hF x hx).1,(hF x hx).2⟩)
  (λx hx hi=>by
   rcases hi with hi | hi
   ·have:=h.lt x hi;have:=(hF x hx).1;omega
   exact(hJ x hi).2.2 hx)
  (λx hx e b he hf=>by have:=(h.new e b he x hf).2;have:=(hF x hx).1;omega) hfree
 exact⟨_,cr,gP,h3.put (some d) h4⟩
theorem yy {J F:Ft}{c:PV}{v:Value}{bl:List (Nat × aO)}{val:Nat->Value}(hJ:∀ x,J x->I x)(hF:∀ x,F x->I x)(h:jD w J c v F):bI w I val bl (pe c) v:=by
 cases h with
 | one c v F h=>
  have he:=h.erase hJ hF
  have hc:pe c=Av.erase c:=by cases c<;>first | rfl | cases h
  rw[hc]
  cases h<;>first | exact .aa _ | exact .leaf _ _ rfl he
 | agg cs vs F h=>
  have he:=h.erase hJ hF
  refine .agg _ _ ?_
  clear h
  revert he
  generalize bf=G
  intro he
  have:∀(cs:List PV) (vs:List Value) (G:Ft),bE w I (dh cs) vs G->aG w I val bl (dh cs) vs:=by
   intro cs
   induction cs with
   | nil=>intro vs G h;cases h;exact .nil
   | cons c cs ih=>
    intro vs G h
    cases h with
    | cons c' l v vs F1 G1 H1 h t _ _ _=>
     refine .cons _ _ _ _ ?_ (ih _ _ t)
     cases c with
     | aa=>exact .aa _
     | raw v=>exact .aa _
     | int k n=>exact .leaf _ _ rfl (fH (c:=.int k n) rfl h)
     | bool b=>exact .leaf _ _ rfl (fH (c:=.bool b) rfl h)
     | str b=>exact .leaf _ _ rfl (fH (c:=.str b) rfl h)
     | zc=>exact .leaf _ _ rfl (fH (c:=.zc) rfl h)
     | sl sz rows=>exact .leaf _ _ rfl (fH (c:=.sl sz rows) rfl h)
     | ow sz rows=>exact .leaf _ _ rfl (fH (c:=.sl sz (ar rows)) rfl h)
     | own d=>cases h
     | pt d i j=>cases h
     | rd cs=>cases h
     | agg cs=>cases h
     | aw cs=>cases h
     | fn f cs=>cases h
  exact this cs vs G he
theorem EJ {J:Ft}{bl:List (Nat × aO)}{val:Nat->Value}(hJ:∀ x,J x->I x):∀{l:List PV} {vs:List Value} {F:Ft},iE w J l vs F->(∀ x,F x->I x)->aG w I val bl (Ee l) vs
 | _,_,_,.nil F,_=>.nil
 | _,_,_,.cons c l v vs F G H h t VW hG d,hF=>.cons _ _ _ _ (yy hJ (λx hx=>hF x (VW x hx)) h) (EJ hJ t (λx hx=>hF x (hG x hx)))
theorem H6 {J F:Ft}{c:PV}{v:Value}{bl:List (Nat × aO)}{val:Nat->Value}(hJ:∀ x,J x->I x)(hF:∀ x,F x->I x)(h:jK w J c v F):bI w I val bl (froze c) v:=by
 cases h with
 | one c v F h=>
  have hc:froze c=pe c:=by cases c<;>first | rfl | (cases h with | one _ _ _ h=>cases h)
  rw[hc]
  exact yy hJ hF h
 | aw cs vs F h=>exact .aw _ _ (EJ hJ h hF)
theorem bz.YY (h:bz B W0 I0 I val fs σ a w){d:Nat}{r:PV}{v:Value}{J F:Ft}(hr:jK w' J r v F)(hF:∀ x,F x->w.heap.size<=x/\x < w'.heap.size)
  (hJ:∀ x,J x->(I x\/w.heap.size<=x)/\x < w'.heap.size/\¬ F x) (hb:Below w.heap.size w w'):eo B W0 I0 (σ.put (some d) (froze r)) (a.put (some d) v) w':=by
 have h1:=h.grow hb
 have h2:=h1.J7 (I':=λx=>I x\/J x\/F x) (λx hx=>.inl hx) (λx hx=>by
  rcases hx with hx | hx | hx
  ·exact h1.lt x hx
  ·exact(hJ x hx).2.1
  ·exact(hF x hx).2) (λx hx=>by
  rcases hx with hx | hx | hx
  ·exact h.eJ x hx
  ·rcases(hJ x hx).1 with hi | hi
   ·exact h.eJ x hi
   exact .inr (h.size _ hi)
  ·exact .inr (h.size _ (hF x hx).1)) (λe b he x hx hi=>by
  rcases hi with hi | hi | hi
  ·exact h.dt e b he x hx hi
  ·rcases(hJ x hi).1 with iX | iX
   ·exact h.dt e b he x hx iX
   have:=(h.new e b he x hx).2;omega
  have:=(h.new e b he x hx).2;have:=(hF x hi).1;omega)
 exact⟨_,val,fs,h2.put (some d) (H6 (λx hx=>.inr (.inl hx)) (λx hx=>.inr (.inr hx)) hr)⟩
theorem KK {g : FuncId} {fn : Func} {c : Code} (hf : P.funcs[g]? = some fn) (hb : fn.body = some c) (hn : (fn.name == "runtime.NumGoroutine") = false) (args : Array Value) (w : World) :
  (callFunc g args).run P w=.ok (.enter g args) w:=by
 have P4 : ¬ fn.name = "runtime.NumGoroutine" := by simpa using hn
 simp[callFunc,hf,hb,P4,go_sem]
theorem yz (h : bz B W0 I0 I val fs σ a w) {g : FuncId} {args : List PV} (hcall : bZ σ o = some (g, args)) (hex : ∃ fn c, P.funcs[g]? = some fn /\ fn.body = some c /\ (fn.name == "runtime.NumGoroutine") = false) :
  ∃ vs:List Value,aG w I val σ.bl args vs/\(execOp a.eval o).run P w=.ok (.enter g vs.toArray) w:=by
 obtain⟨fn,cd,hfn,hbd,hnm⟩:=hex
 unfold bZ at hcall
 split at hcall
 case h_2=>cases hcall
 rename_i c hop
 split at hcall
 case h_2=>cases hcall
 rename_i f hcal
 split at hcall
 case h_2=>cases hcall
 rename_i g' caps hfv
 simp only[aaQ.injEq,Prod.mk.injEq] at hcall
 obtain⟨rfl,rfl⟩:=hcall
 have hv:=h.eval f
 rw[hfv] at hv
 obtain⟨cvs,hv,hcv⟩:=Ql hv
 refine⟨_,(aG.OD h _).append hcv,?_⟩
 have he:(c.args.toList.map a.eval++cvs).toArray=#[]++c.args.map a.eval++cvs.toArray:=by
  apply Array.ext';simp
 rw[he]
 obtain⟨callee,as,tys⟩:=c
 simp only at hcal
 subst hcal
 have:execOp a.eval o=callFunc g' (#[]++as.map a.eval++cvs.toArray):=by
  simp only[execOp,hop,resolve,hv,Deferred.ofValue]
  rfl
 rw[this]
 exact KK hfn hbd hnm _ _
theorem H7 {I' J:Ft}(hJ:∀ x,J x->I' x){cr:Nat->Value}{bl:List (Nat × aO)}:∀{cs:List PV} {vs:List Value} {G:Ft},iE w J cs vs G->eK bG cs=true->aG w I' cr bl cs vs
 | _,_,_,.nil _,_=>.nil
 | _,_,_,.cons c l v vs F1 G1 H1 h t _ _ _,hp=>by
  simp only[eK,aaR] at hp
  refine .cons _ _ _ _ ?_ (H7 hJ t hp.2)
  cases h with
  | one _ _ _ h=>exact .leaf _ _ hp.1 (fH hp.1 (h.frame (bw.refl _ _) hJ (bw.refl _ _)))
  | agg _ _ _ h=>cases hp.1
theorem Qm {J:Ft}{r:PV}{v:Value}(hr:jK w J r v bf)(hp:JW r=true){I':Ft}(hJ:∀ x,J x->I' x){cr:Nat->Value}{bl:List (Nat × aO)}:bI w I' cr bl r v:=by
 cases hr with
 | one _ _ _ h=>
  cases h with
  | one _ _ _ h=>
   have hl:bG r=true:=by
    cases r with
    | aw vs=>cases h
    | agg cs=>cases h
    | _=>exact hp
   exact .leaf _ _ hl (fH hl (h.frame (bw.refl _ _) hJ (bw.refl _ _)))
  | agg cs vs F h=>exact .agg _ _ ((bE.frame (bw.refl _ _) hJ h (bw.refl _ _)).cC hp)
 | aw cs vs F h=>exact .aw _ _ (H7 hJ h hp)
theorem OE (hX:jd P X B W0)(h:bz B W0 I0 I val fs σ a w){K:St->Prop}{next:Act->World->Prop}{Q:Exit->Act->World->Prop}
  (hk:∀ aA a' w',eo B W0 I0 aA a' w'->K aA->next a' w') (ha:RK X o K σ):o.wp P a w next Q:=by
 obtain⟨g,args,eR,tq,r,cy,hcall,hlend,hnd,hXm,hpl,hback,hK⟩:=ha
 obtain⟨hex,hreal⟩:=hX.real.m _ _ _ _ hXm
 obtain⟨vs,hargs,hrun⟩:=yz h hcall hex
 have hnd:=HP hnd
 obtain⟨hT,hbs⟩:=AG h hargs hlend hnd
 unfold Oper.wp
 rw[hrun]
 rw[Oper.upon_enter]
 refine Calls.mono (hreal w (hX.at h.below) I _ ?_ vs hT h.lt ?_) ?_
 ·rintro x ⟨d,hd,hx⟩ hp
  obtain⟨b,hb⟩:=hbs d hd
  exact hX.KJ x hp (h.new d b hb x hx).1
 ·rintro x ⟨d,hd,hx⟩
  obtain⟨b,hb⟩:=hbs d hd
  exact⟨(h.new d b hb x hx).2,h.dt d b hb x hx⟩
 intro e w' he
 cases e with
 | returned v=>
  obtain⟨J,F',hR,Qn,uy,hJ,MP⟩:=he
  obtain⟨gP,hS⟩:=h.back (HU hargs hback Qn hnd) uy hJ MP
  exact hk _ _ _ ⟨_,_,_,hS.put o.dst (Qm hR hpl (λx hx=>.inr hx))⟩ hK
 | panicked c=>exact he.elim
 | outgrown=>exact he.elim
theorem H8 {d e:Nat}{c:aO}(h:av (σ.drop d).bl e=some c):∃ b,e≠d/\av σ.bl e=some b:=by
 have h:av (fX d (iC σ.bl d)) e=some c:=h
 rw[gw,gb] at h
 by_cases h0:d=e
 ·rw [if_pos h0] at h;cases h
 rw[if_neg h0] at h
 cases hb:av σ.bl e with
 | none=>rw[hb] at h;cases h
 | some b=>exact⟨b,abG h0,rfl⟩
theorem OF (hX:jd P X B W0)(h:bz B W0 I0 I val fs σ a w){K:St->Prop}{next:Act->World->Prop}{Q:Exit->Act->World->Prop}
  (hk:∀ aA a' w',eo B W0 I0 aA a' w'->K aA->next a' w') (ha:RN X o K σ):o.wp P a w next Q:=by
 obtain⟨g,args,eR,r,d,d0,hcall,hdst,hlend,howns,hXc,hfree,hK⟩:=ha
 obtain⟨hex,hreal⟩:=hX.real.c _ _ _ hXc
 obtain⟨vs,hargs,hrun⟩:=yz h hcall hex
 obtain⟨hT,hbs⟩:=AG h hargs hlend (by rw[howns];simp)
 rw[howns] at hT hbs
 obtain⟨b0,jm⟩:=hbs d0 (by simp)
 have xn:∀ x,Of fs [d0] x->fs d0 x:=by
  rintro x ⟨d',nL,hx⟩
  have:d'=d0:=by simpa using nL
  rwa [this] at hx
 unfold Oper.wp
 rw[hrun]
 rw[Oper.upon_enter]
 refine Calls.mono (hreal w (hX.at h.below) I _ (λx hx hp=>hX.KJ x hp (h.new d0 b0 jm x (xn x hx)).1) vs hT h.lt ?_) ?_
 ·intro x hx
  exact⟨(h.new d0 b0 jm x (xn x hx)).2,h.dt d0 b0 jm x (xn x hx)⟩
 intro e w' he
 cases e with
 | returned v=>
  obtain⟨J,F',hR,uy,hJ,MP⟩:=he
  have hd:=h.drop d0
  have EC:∀ x,(Of fs [d0] x\/w.heap.size<=x)->B x:=λx hx=>hx.elim (λhx=>(h.new d0 b0 jm x (xn x hx)).1) (λhx=>h.size x hx)
  have hnot:∀ e b,av (σ.drop d0).bl e=some b->∀ x,fs e x->¬ (Of fs [d0] x\/w.heap.size<=x):=by
   intro e b he x hx ho
   obtain⟨b',hne,cP⟩:=H8 he
   rcases ho with ho | ho
   ·exact h.bX e d0 b' b0 cP jm hne x hx (xn x ho)
   have:=(h.new e b' cP x hx).2;omega
  have h1:bz B W0 I0 I val fs (σ.drop d0) a w':=by
   refine hd.world (λx hx=>MP.block x ?_) (MP.mono EC)
   rcases hx with hx | ⟨e,b,he,hx⟩
   ·rintro(ho | ho)
    ·exact h.dt d0 b0 jm x (xn x ho) hx
    have:=h.lt x hx;omega
   exact hnot e b he x hx
  have h2:=h1.J7 (I':=λx=>I x\/J x) (λx hx=>.inl hx) (λx hx=>by
   rcases hx with hx | hx
   ·exact h1.lt x hx
   ·exact(hJ x hx).2.1) (λx hx=>by
   rcases hx with hx | hx
   ·exact h.eJ x hx
   ·rcases(hJ x hx).1 with hi | hi
    ·exact h.eJ x hi
    exact .inr (EC x hi)) (λe b he x hx hi=>by
   rcases hi with hi | hi
   ·exact h1.dt e b he x hx hi
   rcases(hJ x hi).1 with iX | iX
   ·exact h1.dt e b he x hx iX
   exact hnot e b he x hx iX)
  obtain⟨cr,gP,h3,h4⟩:=Hy h2 (id:=d) (hR.tB λx hx=>.inr hx) (λx hx=>⟨EC x (uy x hx).1,(uy x hx).2⟩)
   (λx hx hi=>by
    rcases hi with hi | hi
    ·rcases(uy x hx).1 with ho | ho
     ·exact h.dt d0 b0 jm x (xn x ho) hi
     have:=h.lt x hi;omega
    exact(hJ x hi).2.2 hx)
   (λx hx e b he hf=>hnot e b he x hf (uy x hx).1) hfree
  rw[hdst]
  exact hk _ _ _ ⟨_,cr,gP,h3.put (some d) h4⟩ hK
 | panicked c=>exact he.elim
 | outgrown=>exact he.elim
theorem bz.reorder {I:Ft}{val:Nat->Value}{fs:Nat->Ft}(h:bz B W0 I0 I val fs σ a w){cy:List (Nat × aO)}(hb:∀ d,av cy d=av σ.bl d):bz B W0 I0 I val fs {σ with bl:=cy} a w:=by
 have hE:Ext σ.bl cy val val:=λd b hd=>⟨⟨b,by rw[hb];exact hd,rfl,rfl⟩,rfl⟩
 refine{cC:=aG.frame (bw.refl _ _) (λ_ h=>h) hE h.cC,blocks:=λe c he=>?_,bX:=λe e' c c' he lu=>?_,dt:=λe c he=>?_,new:=λe c he=>?_,lt:=h.lt,eJ:=h.eJ,below:=h.below,size:=h.size,dP:=λe v he=>?_,defers:=h.defers}
 ·have he:av cy e=some c:=he
  rw[hb] at he
  exact(h.blocks e c he).frame (bw.refl _ _) (λ_ h=>h) hE (bw.refl _ _)
 ·have he:av cy e=some c:=he
  have lu:av cy e'=some c':=lu
  rw[hb] at he lu
  exact h.bX e e' c c' he lu
 ·have he:av cy e=some c:=he
  rw[hb] at he;exact h.dt e c he
 ·have he:av cy e=some c:=he
  rw[hb] at he;exact h.new e c he
 obtain⟨h2,c,hc⟩:=h.dP e v he
 exact⟨h2,c,by show av cy e=some c;rw[hb];exact hc⟩
theorem Sz {vs:List Value}{bl:List (Nat × aO)}:aG w I val bl (aa0 vs.length .aa) vs:=by
 induction vs with
 | nil=>exact .nil
 | cons v vs ih=>rw[List.length_cons,List.replicate_succ];exact .cons _ _ _ _ (.aa _) ih
theorem bz.var (h:bz B W0 I0 I val fs σ a w){d n:Nat}{row:List PV}(hd:av σ.bl d=some ⟨.var,n,[row]⟩):∃ g,val d=.pointer (some ⟨g,0,none⟩)/\mg w I val σ.bl n row g (fs d):=h.blocks d _ hd
theorem bz.wrote {aR:St}(h1:bz B W0 I0 I val fs aR a w){d n g:Nat}{row:List PV}{F J F':Ft}{cx:List PV}{c':Array Value}{t':TypeId}(hd:av aR.bl d=some ⟨.var,n,[row]⟩)(hg:val d=.pointer (some ⟨g,0,none⟩))(hfg:fs d g)
    (EC:∀ x,F x->B x/\x < w.heap.size/\¬ I x) (xl:∀ x,F x->∀ e b,av aR.bl e=some b->¬ fs e x)
    (hc:w'.heap[g]? =some (.cells c' t' (0,0))) (hR:bE w' J cx c'.toList F') (uy:∀ x,F' x->(F x\/w.heap.size<=x)/\x < w'.heap.size) (hJ:∀ x,J x->(I x\/F x\/w.heap.size<=x)/\x < w'.heap.size/\¬ F' x)
    (hK:Kept (λx=>(F x\/x=g)\/w.heap.size<=x) w w') (hn:cx.length=n) {id:Nat} (hfree:cV aR.bl (bJ true id cx).2=true):
    ∃ cr gP,bz B W0 I0 (λx=>I x\/J x) cr gP {aR with bl:=(bJ true id cx).2++cg aR.bl d ⟨.var,n,[(bJ true id cx).1]⟩} a w':=by
  have MQ:=h1.new d _ hd g hfg
  have Z9:∀ x,((F x\/x=g)\/w.heap.size<=x)->B x:=by
    rintro x ((hx | rfl) | hx)
    · exact(EC x hx).1
    · exact MQ.1
    · exact h1.size x hx
  have hNI:∀ x,I x->¬ ((F x\/x=g)\/w.heap.size<=x):=by
    rintro x hx ((hf | rfl) | hs)
    · exact(EC x hf).2.2 hx
    · exact h1.dt d _ hd _ hfg hx
    · have:=h1.lt x hx;omega
  have hNe:∀ e b,av aR.bl e=some b->e≠d->∀ x,fs e x->¬ ((F x\/x=g)\/w.heap.size<=x):=by
    rintro e b he hne x hx ((hf | rfl) | hs)
    · exact xl x hf e b he hx
    · exact h1.bX e d b _ he hd hne _ hx hfg
    · have:=(h1.new e b he x hx).2;omega
  have hlen:c'.toList.length=n:=by rw[hR.len,hn]
  -- the variable's cells,of which nothing is known
  let bb:aO:=⟨.var,n,[aa0 n .aa]⟩
  have hE:Ext aR.bl (cg aR.bl d bb) val val:=by
    intro e b he
    refine⟨?_,rfl⟩
    rw[ct]
    by_cases h0:d=e
    · subst h0;rw[hd] at he;cases he;exact⟨bb,by rw[if_pos rfl],rfl,rfl⟩
    · exact⟨b,by rw[if_neg h0];exact he,rfl,rfl⟩
  have look:∀ e b,av (cg aR.bl d bb) e=some b->(e=d/\b=bb)\/(e≠d/\av aR.bl e=some b):=by
    intro e b he
    rw[ct] at he
    by_cases h0:d=e
    · rw[if_pos h0] at he;exact .inl ⟨h0.symm,by simpa using he.symm⟩
    · rw[if_neg h0] at he;exact .inr ⟨abG h0,he⟩
  have AA:bw I w w':=λx hx=>hK.block x (hNI x hx)
  have s1:bz B W0 I0 I val (eD fs d (λx=>x=g)) {aR with bl:=cg aR.bl d bb} a w':=by
    refine{cC:=aG.frame AA (λ_ h=>h) hE h1.cC,blocks:=λe b he=>?_,bX:=λe e' b b' he lu hne x hx aX=>?_,dt:=λe b he x hx=>?_,new:=λe b he x hx=>?_,
             lt:=λx hx=>abg (h1.lt x hx) hK.size,eJ:=h1.eJ,below:=h1.below.trans (hK.mono Z9),size:=λx hx=>h1.size x (acf hK.size hx),dP:=λe v he=>?_,defers:=h1.defers}
    · rcases look e b he with ⟨rfl,rfl⟩ | ⟨hne,he⟩
      · rw[cb]
        refine⟨g,hg,t',c',rfl,hc,?_,by simp,mE hR⟩
        have:=Sz (w:=w') (I:=I) (val:=val) (bl:=cg aR.bl e bb) (vs:=c'.toList)
        rwa [hlen] at this
      · rw[di _ _ hne]
        exact(h1.blocks e b he).frame AA (λ_ h=>h) hE (λx hx=>hK.block x (hNe e b he hne x hx))
    · rcases look e b he with ⟨rfl,rfl⟩ | ⟨ej,h2⟩<;>rcases look e' b' lu with ⟨rfl,rfl⟩ | ⟨nG,h3⟩
      · exact hne rfl
      · rw[cb] at hx;rw[di _ _ nG] at aX;subst hx;exact h1.bX _ _ _ _ hd h3 (abG nG) _ hfg aX
      · rw[cb] at aX;rw[di _ _ ej] at hx;subst aX;exact h1.bX _ _ _ _ hd h2 (abG ej) _ hfg hx
      · rw[di _ _ ej] at hx;rw[di _ _ nG] at aX;exact h1.bX _ _ _ _ h2 h3 hne x hx aX
    · rcases look e b he with ⟨rfl,rfl⟩ | ⟨ej,h2⟩
      · rw[cb] at hx;subst hx;exact h1.dt _ _ hd _ hfg
      · rw[di _ _ ej] at hx;exact h1.dt _ _ h2 x hx
    · rcases look e b he with ⟨rfl,rfl⟩ | ⟨ej,h2⟩
      · rw[cb] at hx;subst hx;exact⟨MQ.1,abg MQ.2 hK.size⟩
      · rw[di _ _ ej] at hx;exact⟨(h1.new _ _ h2 x hx).1,abg (h1.new _ _ h2 x hx).2 hK.size⟩
    · obtain⟨h2,b,hb⟩:=h1.dP e v he
      exact⟨h2,by obtain⟨⟨b',cP,_⟩,_⟩:=hE e b hb;exact⟨b',cP⟩⟩
  have hfs:∀ e b,av (cg aR.bl d bb) e=some b->∀ x,eD fs d (λx=>x=g) e x->(e=d/\x=g)\/(e≠d/\∃ b,av aR.bl e=some b/\fs e x):=by
    intro e b he x hx
    rcases look e b he with ⟨rfl,rfl⟩ | ⟨ej,h2⟩
    · rw[cb] at hx;exact .inl ⟨rfl,hx⟩
    · rw[di _ _ ej] at hx;exact .inr ⟨ej,b,h2,hx⟩
  have jL:∀ e b,av (cg aR.bl d bb) e=some b->∀ x,eD fs d (λx=>x=g) e x->¬ (F x\/w.heap.size<=x):=by
    intro e b he x hx hf
    rcases hfs e b he x hx with ⟨rfl,rfl⟩ | ⟨hne,b',cP,aX⟩
    · rcases hf with hf | hf
      · exact xl x hf e _ hd hfg
      · have:=MQ.2;omega
    · exact hNe e b' cP hne x aX (hf.elim (λh=>.inl (.inl h)) .inr)
  have s2:=s1.J7 (I':=λx=>I x\/J x) (λx hx=>.inl hx) (λx hx=>by
    rcases hx with hx | hx
    · exact s1.lt x hx
    · exact(hJ x hx).2.1) (λx hx=>by
    rcases hx with hx | hx
    · exact h1.eJ x hx
    · rcases(hJ x hx).1 with hi | hi | hi
      · exact h1.eJ x hi
      · exact .inr (EC x hi).1
      · exact .inr (h1.size x hi)) (λe b he x hx hi=>by
    rcases hi with hi | hi
    · exact s1.dt e b he x hx hi
    · rcases(hJ x hi).1 with iX | iX
      · exact s1.dt e b he x hx iX
      · exact jL e b he x hx iX)
  have VX:cV (cg aR.bl d bb) (bJ true id cx).2=true:=by
    have:∀ l:List (Nat × aO),cV aR.bl l=true->cV (cg aR.bl d bb) l=true:=by
      intro l
      induction l with
      | nil=>intro _;rfl
      | cons p l ih=>
        intro hl
        obtain⟨e,b⟩:=p
        obtain⟨h2,h3,h4⟩:=lC hl
        have hne:d≠e:=λh0=>by subst h0;rw[hd] at h2;cases h2
        simp only[cV,ct,if_neg hne,h2,h3,ih h4,Bool.and_self]
    exact this _ hfree
  obtain⟨wE,Em,s3,hrow,hE3,PU⟩:=vm (id:=id) s2 (bE.frame (bw.refl _ _) (λx hx=>.inr hx) hR (bw.refl _ _)) (λx hx=>⟨Z9 x ((uy x hx).1.elim (λh=>.inl (.inl h)) .inr),(uy x hx).2⟩) (λx hx hi=>by
      rcases hi with hi | hi
      · exact hNI x hi ((uy x hx).1.elim (λh=>.inl (.inl h)) .inr)
      · exact(hJ x hi).2.2 hx)
    (λx hx e b he hf=>jL e b he x hf (uy x hx).1) VX
  -- and now what is known of them
  have hdn:av (bJ true id cx).2 d=none:=by
    have:∀ l:List (Nat × aO),cV aR.bl l=true->av l d=none:=by
      intro l
      induction l with
      | nil=>intro _;rfl
      | cons p l ih=>
        intro hl
        obtain⟨e,b⟩:=p
        obtain⟨h2,h3,h4⟩:=lC hl
        have hne:e≠d:=λh0=>by subst h0;rw[hd] at h2;cases h2
        rw[bQ,if_neg hne];exact ih h4
    exact this _ hfree
  have hdd:av ((bJ true id cx).2++cg aR.bl d bb) d=some bb:=by rw[fZ,hdn];show av (cg aR.bl d bb) d=_;rw[ct,if_pos rfl]
  let b2:aO:=⟨.var,n,[(bJ true id cx).1]⟩
  have VY:wE d=val d:=(hE3 d bb (by show av (cg aR.bl d bb) d=_;rw[ct,if_pos rfl])).2
  have vA:Em d=λx=>x=g:=by
    rcases PU d bb hdd with ⟨_,h3⟩ | ⟨h3,_⟩
    · rw[h3,cb]
    · have h3:av (cg aR.bl d bb) d=none:=h3
      rw[ct,if_pos rfl] at h3;cases h3
  have aan:∀ e,av ((bJ true id cx).2++cg aR.bl d b2) e=av (cg ((bJ true id cx).2++cg aR.bl d bb) d b2) e:=by
    intro e
    rw[ct,fZ,fZ,ct,ct]
    by_cases h0:d=e
    · subst h0;rw[hdn,if_pos rfl,if_pos rfl]
    · rw[if_neg h0,if_neg h0,if_neg h0]
  have hBk:iU w' (λx=>I x\/J x) wE (cg ((bJ true id cx).2++cg aR.bl d bb) d b2) b2 (wE d) (λx=>x=g):=by
    refine⟨g,VY.trans hg,t',c',rfl,hc,?_,?_,mE hR⟩
    · refine aG.frame (bw.refl _ _) (λ_ h=>h) ?_ hrow
      intro e b he
      have he:av ((bJ true id cx).2++cg aR.bl d bb) e=some b:=he
      refine⟨?_,rfl⟩
      rw[ct]
      by_cases h0:d=e
      · subst h0
        rw[hdd] at he
        cases he
        exact⟨b2,by rw[if_pos rfl],rfl,rfl⟩
      · exact⟨b,by rw[if_neg h0];exact he,rfl,rfl⟩
    · rw[<- hrow.len,hlen]
  have s4:=s3.Ez (b':=b2) (w':=w') (F:=λx=>x=g) hdd rfl rfl (λ_ _=>rfl) (Kept.refl _ _) hBk (λx hx=>by subst hx;exact⟨MQ.1,abg MQ.2 hK.size⟩)
    (λx hx=>by
      subst hx
      exact s3.dt d bb hdd x (by rw[vA]))
    (λx hx e b hne he hf=>by
      subst hx
      exact s3.bX e d b bb he hdd hne x hf (by rw[vA]))
  exact⟨_,_,s4.reorder (cy:=(bJ true id cx).2++cg aR.bl d b2) aan⟩
theorem OG (hX:jd P X B W0)(h:bz B W0 I0 I val fs σ a w){K:St->Prop}{next:Act->World->Prop}{Q:Exit->Act->World->Prop}
  (hk:∀ aA a' w',eo B W0 I0 aA a' w'->K aA->next a' w') (ha:Vy X o K σ):o.wp P a w next Q:=by
 obtain⟨g,d,rest,n,row,cs,aR,ki,cx,r,id,hcall,jL,hd,habs,cN,hXv,hlen,hfree,hK⟩:=ha
 obtain⟨hex,hreal⟩:=hX.real.v _ _ _ _ _ hXv
 obtain⟨vs,hargs,hrun⟩:=yz h hcall hex
 obtain⟨g0,hv0,t,c,hfg,hh,hrow,hrl,hones⟩:=h.var hd
 cases hargs with
 | cons _ _ v0 vs hp hrest=>
  have hv:v0=.pointer (some ⟨g0,0,none⟩):=by
   cases hp with
   | leaf c v hl h=>cases hl
   | pt d i j b g hb hg=>
    rw[hv0] at hg
    simp only[jJ,aaQ.injEq] at hg
    subst hg
    simp
  subst hv
  obtain⟨F,iW,KL,hgone,hsub,_⟩:=lO h hrow habs
  have hF:∀ x,F x->B x/\x < w.heap.size/\¬ I x:=λx hx=>by
   obtain⟨e,b,hb,_,hf⟩:=hgone x hx
   exact⟨(h.new e b hb x hf).1,(h.new e b hb x hf).2,h.dt e b hb x hf⟩
  have xl:∀ x,F x->∀ e b,av aR.bl e=some b->¬ fs e x:=λx hx e b he hf=>by
   obtain⟨e',b',cP,P4,J4⟩:=hgone x hx
   obtain⟨b2,sS,_⟩:=hsub e b he
   have hne:e'≠e:=λh0=>by subst h0;rw[P4] at he;cases he
   exact h.bX e' e b' b2 cP sS hne x J4 hf
  have CK:¬ F g0:=λhx=>xl g0 hx d _ cN hfg
  unfold Oper.wp
  rw[hrun]
  rw[Oper.upon_enter]
  refine Calls.mono (hreal w (hX.at h.below) I F g0 t c vs (λ_=>undef) ?_ hh KL (aG.zV hrest jL) h.lt ?_ CK) ?_
  ·rintro x (hx | rfl) hp
   ·exact hX.KJ x hp (hF x hx).1
   exact hX.KJ _ hp (h.new d _ hd _ hfg).1
  ·rintro x (hx | rfl)
   ·exact(hF x hx).2
   exact⟨(h.new d _ hd _ hfg).2,h.dt d _ hd _ hfg⟩
  intro e w' he
  cases e with
  | returned v=>
   obtain⟨J,F',c',t',mz,VV,hRr,uy,hJ,MP⟩:=he
   obtain⟨cr,gP,hS⟩:=iW.wrote cN hv0 hfg hF xl mz VV uy hJ MP (eZ hlen) hfree
   exact hk _ _ _ ⟨_,_,_,hS.put o.dst (H6 (λx hx=>.inr hx) (λx hx=>hx.elim) hRr)⟩ hK
  | panicked c=>exact he.elim
  | outgrown=>exact he.elim
theorem OH (hT:fa P T)(h:bz B W0 I0 I val fs σ a w){K:St->Prop}{next:Act->World->Prop}{Q:Exit->Act->World->Prop}
  (hk:∀ aA a' w',eo B W0 I0 aA a' w'->K aA->next a' w') (ha:RL T o K σ):o.wp P a w next Q:=by
 obtain⟨t,x,i,dd,d,ra,j,sz,rows,r,s,nrows,ho,hdst,ht,hag,hx,hd,hr,hj,hdd,hK⟩:=ha
 obtain⟨inf,z,hi,hsz,hby,hz,_,_,_,hkd⟩:=hT _ _ ht
 obtain⟨u,g,hg,hcell,cr,gP,hS,hval⟩:=h.nest hd hr hj hdd
 have e:=h.eval x
 rw[hx] at e
 generalize hv:a.eval x=v at e
 cases e with
 | leaf c v hl h=>cases hl
 | pt d i' j' b g' hb Aq=>
  rw[hd] at hb
  cases hb
  rw[hg] at Aq
  cases Aq
  have hload:(loadVar t ⟨g,ra * sz+j,none⟩).run P w=.ok u w:=by
   unfold loadVar
   rw[Sem.run_bind,hkd.agg w,Result.andThen_ok,hag]
   simp[load,Sem.run,hcell]
  have hrun:(execOp a.eval o).run P w=.ok (.value u) w:=by simp[execOp,ho,hv,Instr.loadAt,Instr.sureAddr,hload]
  have hp:=hS.put (some dd) (c:=.own dd) (v:=u) (by
   have:=bI.own (w:=w) (I:=I) (val:=cr) (bl:=(dd,(⟨.arr,s,nrows⟩:aO))::cg σ.bl d ⟨.arr,sz,rows.set ra (bT r j (.raw u))⟩) dd _ (by rw[bQ,if_pos rfl]) (by intro h;cases h)
   rwa [hval] at this)
  unfold Oper.wp
  rw[hrun]
  show next (a.put o.dst u) w
  rw[hdst]
  exact hk _ _ _ ⟨_,_,_,hp⟩ (hK u)
theorem EK (hT:fa P T)(hX:jd P X B W0)(h:bz B W0 I0 I val fs σ a w){K:St->Prop}{next:Act->World->Prop}{Q:Exit->Act->World->Prop}
    (hk:∀ aA a' w',eo B W0 I0 aA a' w'->K aA->next a' w') (ha:nS T X o K σ):o.wp P a w next Q:=by
  unfold nS at ha
  split at ha
  · rename_i g args d hcall hd
    obtain⟨r,hr,hfresh,hfin⟩:=ha
    unfold bZ at hcall
    split at hcall
    case h_2=>cases hcall
    rename_i c hop
    split at hcall
    case h_2=>cases hcall
    rename_i f hcal
    split at hcall
    case h_2=>cases hcall
    rename_i g' caps hfv
    simp only[aaQ.injEq,Prod.mk.injEq] at hcall
    obtain⟨rfl,rfl⟩:=hcall
    have hv:=h.eval f
    rw[hfv] at hv
    obtain⟨cvs,hv,hcv⟩:=Ql hv
    obtain⟨⟨fn,cd,hfn,hbd,hnm⟩,hreal⟩:=hX.real.r _ _ _ hr
    have hargs:aG w I val σ.bl (c.args.toList.map σ.get++caps) (c.args.toList.map a.eval++cvs):=(aG.OD h _).append hcv
    have hrun:(execOp a.eval o).run P w=.ok (.enter g' (c.args.toList.map a.eval++cvs).toArray) w:=by
      have he:(c.args.toList.map a.eval++cvs).toArray=#[]++c.args.map a.eval++cvs.toArray:=by
        apply Array.ext';simp
      rw[he]
      obtain⟨callee,as,tys⟩:=c
      simp only at hcal
      subst hcal
      have:execOp a.eval o=callFunc g' (#[]++as.map a.eval++cvs.toArray):=by
        simp only[execOp,hop,resolve,hv,Deferred.ofValue]
        rfl
      rw[this]
      exact KK hfn hbd hnm _ _
    unfold Oper.wp
    rw[hrun]
    rw[Oper.upon_enter]
    have fin:∀(v:Value) (w':World) (J F:Ft),jK w' J r v F->(∀ x,F x->w.heap.size<=x/\x < w'.heap.size)->(∀ x,J x->(I x\/w.heap.size<=x)/\x < w'.heap.size/\¬ F x)->Below w.heap.size w w'->next (a.put o.dst v) w':=by
      intro v w' J F hR hF hJ hB
      rw[hd]
      rcases hfin with ⟨hfree,hK⟩ | hK
      · exact hk _ _ _ (h.bind hR hF hJ hB hfree) hK
      · exact hk _ _ _ (h.YY hR hF hJ hB) hK
    rcases hfresh with hfresh | jL
    · refine Calls.mono (hreal w (hX.at h.below) (λx=>I x\/∃ e b,av σ.bl e=some b/\fs e x) _ val (hargs.view (fs:=fs) h.blocks (λx hx=>.inl hx) (λe b he x hx=>.inr ⟨e,b,he,hx⟩)) ?_) ?_
      · intro x hx
        rcases hx with hx | ⟨e,b,he,hx⟩
        · exact h.lt x hx
        · exact(h.new e b he x hx).2
      · intro e w' he
        cases e with
        | returned v=>
          obtain⟨J,F,hR,hF,hJ,hB⟩:=he
          exact fin v w' bf F (hR.fresh hfresh) hF (λx hx=>hx.elim) hB
        | panicked c=>exact he.elim
        | outgrown=>exact he.elim
    · refine Calls.mono (hreal w (hX.at h.below) I _ val (hargs.zV jL) h.lt) ?_
      intro e w' he
      cases e with
      | returned v=>
        obtain⟨J,F,hR,hF,hJ,hB⟩:=he
        exact fin v w' J F hR hF hJ hB
      | panicked c=>exact he.elim
      | outgrown=>exact he.elim
  · split at ha
    · rename_i aA hs
      exact(NY hT h hs).wp λa' w' hS=>hk _ _ _ hS ha
    · exact ha.elim
theorem qH (hT:fa P T)(hX:jd P X B W0)(h:bz B W0 I0 I val fs σ a w){K:St->Prop}{next:Act->World->Prop}{Q:Exit->Act->World->Prop}
  (hk:∀ aA a' w',eo B W0 I0 aA a' w'->K aA->next a' w') (ha:nS T X o K σ\/RK X o K σ\/RL T o K σ\/RM T o K σ\/RN X o K σ):o.wp P a w next Q:=by
 rcases ha with ha | ha | ha | ha | ha
 ·exact EK hT hX h hk ha
 ·exact OE hX h hk ha
 ·exact OH hT h hk ha
 ·exact Ot hT h hk ha
 exact OF hX h hk ha
theorem qB :∀(l:List Oper) (j:Nat) (t:Tmp),ji l j=some t->(l[j]?).bind (·.dst)=some t
 | [],_,_,h=>by cases h
 | o::_,0,t,h=>by simpa [ji] using h
 | _::l,j+1,t,h=>by simpa using qB l j t h
theorem KM (h:bz B W0 I0 I val fs σ a w){ops:Array Oper}{j:Nat}{t:Tmp}(hd:ji ops.toList j=some t){b:Bool}(hb:bM σ.sl t=.bool b):yielded ops a.tmps j=some b:=by
  have h1:=qB _ _ _ hd
  rw[Array.getElem?_toList] at h1
  unfold yielded
  rw[h1]
  have hlen:=h.cC.len
  have h2:=h.cC.get t undef
  rw[hb] at h2
  have h3:=pH h2
  have hlt:t < a.tmps.size:=by
    rcases Nat.lt_or_ge t a.tmps.size with hl | hl
    · exact hl
    · exfalso
      have:bM σ.sl t=.aa:=by
        have my:σ.sl.length<=t:=by rw[<- hlen];simpa using hl
        clear h3 h2 hlen h1 hd hb h hl
        revert my
        generalize σ.sl=l
        induction l generalizing t with
        | nil=>intro _;cases t<;>rfl
        | cons c l ih=>intro my;cases t with
          | zero=>simp at my
          | succ t=>exact ih (t:=t) (by simpa using my)
      rw[this] at hb
      cases hb
  have:a.tmps[t]? =some (.bool b):=by
    rw[Array.getElem?_eq_getElem hlt]
    simp only[List.getD_eq_getElem?_getD,Array.getElem?_toList,Array.getElem?_eq_getElem hlt,Option.getD_some] at h3
    rw[h3]
  simp[this]
end
end Go.Av

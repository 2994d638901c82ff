/- Which items are needed: the program's way of telling it and the reference's are one. -/
import Derived.Test.YtjbokkoiicoahaaGreatDoorPl
namespace Go.Av
open Go
set_option linter.unusedVariables false
set_option linter.unusedSimpArgs false
def seqIs (x y:GItem):Bool:=decide (y.Seq=x.Seq)
def sameI (b:Option GItem)(x:GItem):Bool:=b.isSome && pvEqL (eItem (b.getD zItem)) (eItem x)
def seqI (b:Option GItem)(x:GItem):Bool:=decide ((b.getD zItem).Seq=x.Seq)
def othB (r:GRec)(y:GItem):Bool:=decide (y.Rec.Valid=r.Valid) && !(decide (y.Rec.Kind=2))
def needI (xs:List GItem)(x:GItem):Bool:=
 if x.Rec.Kind=1 then sameI (boxAt x.Rec.Valid xs) x
 else if x.Rec.Kind=2 then xs.any (othB x.Rec) && sameI (lat (kindIs 2 x.Rec.Valid) bySeqB xs) x
 else if x.Rec.Kind=3∨x.Rec.Kind=4 then (mailAt x.Rec.Valid x.Rec.Uid xs).isSome && sameI (lat (mailIs x.Rec.Kind x.Rec.Valid x.Rec.Uid) bySeqB xs) x
 else if x.Rec.Kind=5 then ((boxAt x.Rec.Valid xs).isSome && (lat (mailIs 3 x.Rec.Valid x.Rec.Uid) bySeqB xs).isSome) && sameI (lat (mailIs 5 x.Rec.Valid x.Rec.Uid) bySeqB xs) x
 else false
def needX (xs:List GItem)(k:Nat)(x:GItem):Bool:= !((xs.take k).any (seqIs x)) && needI xs x
def thereR (v:Int)(xs:List GItem):Bool:=(lat (mailIs 1 v 0) bySeqB xs).isSome && !(lat (mailIs 2 v 0) bySeqB xs).isSome
def biggerB (x y:GItem):Bool:=kindIs 1 x.Rec.Valid y.Rec && byNextB x y
def needR (xs:List GItem)(x:GItem):Bool:=
 if x.Rec.Kind=1 then !(xs.any (biggerB x)) && thereR x.Rec.Valid xs
 else if x.Rec.Kind=2 then xs.any (othB x.Rec) && seqI (lat (mailIs 2 x.Rec.Valid 0) bySeqB xs) x
 else if x.Rec.Kind=5 then (thereR x.Rec.Valid xs && (lat (mailIs 3 x.Rec.Valid x.Rec.Uid) bySeqB xs).isSome) && seqI (lat (mailIs 5 x.Rec.Valid x.Rec.Uid) bySeqB xs) x
 else ((thereR x.Rec.Valid xs && (lat (mailIs 3 x.Rec.Valid x.Rec.Uid) bySeqB xs).isSome) && !(lat (mailIs 5 x.Rec.Valid x.Rec.Uid) bySeqB xs).isSome) && seqI (lat (mailIs x.Rec.Kind x.Rec.Valid x.Rec.Uid) bySeqB xs) x
def needZ (xs:List GItem)(k:Nat)(x:GItem):Bool:= !((xs.take k).any (seqIs x)) && needR xs x
theorem eItem_inj {x y:GItem}(h:eItem x=eItem y):x=y:=by
 obtain⟨a,b,c,d,e,f,g,i,j⟩:=x
 obtain⟨a',b',c',d',e',f',g',i',j'⟩:=y
 simp only[eItem,List.cons.injEq,PV.int.injEq,PV.str.injEq,true_and,and_true] at h
 obtain⟨rfl,rfl,rfl,rfl,rfl,rfl,rfl,rfl,rfl⟩:=h
 rfl
theorem pv_eq {x y:GItem}:pvEqL (eItem x) (eItem y)=true↔x=y:=by
 constructor
 ·intro h;exact eItem_inj (pvEqL_eq (by rfl) h)
 rintro rfl;exact(pvEqL_iff (by rfl) (by rfl)).2 rfl
theorem go_eq :∀(pre xs:List GItem),itGo pre xs=true→(∀ y∈pre,∀ x∈xs,y.Seq=x.Seq→y=x)∧∀ y∈xs,∀ x∈xs,y.Seq=x.Seq→y=x
 | pre,[],_=>⟨fun _ _ x hx=>(nomatch hx),fun _ hy=>(nomatch hy)⟩
 | pre,z::zs,h=>by
  unfold itGo at h
  rw[Bool.and_eq_true,Bool.and_eq_true] at h
  obtain⟨h1,h2⟩:=go_eq (pre++[z]) zs h.2
  have hz:∀ y∈pre,y.Seq=z.Seq→y=z:=by
   intro y hy he
   have hc:clash z y=false:=by
    have:=h.1.2
    rw[Bool.not_eq_true',List.any_eq_false] at this
    simpa using this y hy
   unfold clash at hc
   rw[decide_eq_true he,Bool.true_and,Bool.not_eq_false'] at hc
   exact pv_eq.1 hc
  refine⟨fun y hy x hx he=> ?_,fun y hy x hx he=> ?_⟩
  ·rcases List.mem_cons.1 hx with rfl | hx
   ·exact hz y hy he
   exact h1 y (List.mem_append_left _ hy) x hx he
  rcases List.mem_cons.1 hy with rfl | hy
  ·rcases List.mem_cons.1 hx with rfl | hx
   ·rfl
   exact h1 y (List.mem_append_right _ (List.mem_singleton.2 rfl)) x hx he
  rcases List.mem_cons.1 hx with e | hx
  ·exact(h1 x (List.mem_append_right _ (List.mem_singleton.2 e)) y hy he.symm).symm
  exact h2 y hy x hx he
theorem items_eq {xs:List GItem}(h:itemsOk xs=true){x y:GItem}(hy:y∈xs)(hx:x∈xs)(he:y.Seq=x.Seq):y=x:=by
 unfold itemsOk at h
 rw[Bool.and_eq_true] at h
 exact(go_eq [] xs h.2).2 y hy x hx he
theorem same_seq {xs:List GItem}(h:itemsOk xs=true){x:GItem}(hx:x∈xs){p:GRec→Bool}{lt:GItem→GItem→Bool}(hp:p x.Rec=true):sameI (lat p lt xs) x=seqI (lat p lt xs) x:=by
 have hs:(lat p lt xs).isSome=true:=by rw[lat_isSome];exact List.any_eq_true.2 ⟨x,hx,hp⟩
 obtain⟨b,hb⟩:=Option.isSome_iff_exists.1 hs
 unfold sameI seqI
 rw[hb]
 show(true && pvEqL (eItem b) (eItem x))=decide (b.Seq=x.Seq)
 rw[Bool.true_and,Bool.eq_iff_iff,pv_eq,decide_eq_true_eq]
 exact⟨fun h=>by rw[h],fun he=>items_eq h (lat_mem hb).1 hx he⟩
theorem top_go {p:GRec→Bool}:∀(xs:List GItem) (b:Option GItem) (x:GItem),xs.foldl (latStep p byNextB) b=some x→(∀ y,b=some y→byNextB x y=false)∧∀ y∈xs,p y.Rec=true→byNextB x y=false
 | [],b,x,h=>by
  have h:b=some x:=h
  refine⟨fun y hy=> ?_,fun y hy=>(nomatch hy)⟩
  rw[h] at hy;cases hy
  simp[byNextB]
 | z::zs,b,x,h=>by
  obtain⟨h1,h2⟩:=top_go zs (latStep p byNextB b z) x h
  have key:∀ w:GItem,byNextB x w=false→∀ y:GItem,byNextB w y=false→byNextB x y=false:=by
   intro w hw y hy
   unfold byNextB at *
   split at hw<;>split at hy<;>split<;>simp only[decide_eq_false_iff_not] at * <;>omega
  have hlt:∀ w:GItem,byNextB x z=false→byNextB w z=true→byNextB x w=false:=by
   intro w hx hw
   unfold byNextB at *
   split at hx<;>split at hw<;>split<;>simp only[decide_eq_false_iff_not,decide_eq_true_eq] at * <;>omega
  have hb:(∀ y,b=some y→byNextB x y=false)∧(p z.Rec=true→byNextB x z=false):=by
   cases b with
   | none=>
    rw[st_none] at h1
    exact⟨fun y hy=>(nomatch hy),fun hp=>h1 z (if_pos hp)⟩
   | some w=>
    rw[st_some] at h1
    by_cases hc:p z.Rec=true∧byNextB w z=true
    ·rw [if_pos hc] at h1
     have h3:=h1 z rfl
     refine⟨fun y hy=> ?_,fun _=>h3⟩
     cases hy
     exact hlt w h3 hc.2
    rw[if_neg hc] at h1
    have h3:=h1 w rfl
    refine⟨h1,fun hp=> ?_⟩
    have h4:byNextB w z=false:=by
     cases hq:byNextB w z with
     | false=>rfl
     | true=>exact absurd ⟨hp,hq⟩ hc
    exact key w h3 z h4
  refine⟨hb.1,fun y hy hp=> ?_⟩
  rcases List.mem_cons.1 hy with rfl | hy
  ·exact hb.2 hp
  exact h2 y hy hp
theorem there_same {xs:List GItem}(hok:itemsOk xs=true)(v:Int):thereR v xs=(boxAt v xs).isSome:=by
 have h1:lat (mailIs 1 v 0) bySeqB xs=lat (kindIs 1 v) bySeqB xs:=by
  refine lat_congr fun x hx=> ?_
  unfold mailIs
  by_cases hk:kindIs 1 v x.Rec=true
  ·rw [hk]
   have h2:=(kindIs_iff.1 hk).1
   have h3:x.Rec.Uid=0:=by
    have h:=items_rec hok hx
    simp only[recOk,inR,Bool.and_eq_true,Bool.or_eq_true,decide_eq_true_eq] at h
    omega
   rw[h3];rfl
  simp[hk]
 unfold thereR
 rw[h1,drop_lat hok,Bool.eq_iff_iff,boxAt_some,lat_isSome,lat_isSome]
 simp only[Bool.and_eq_true,Bool.not_eq_true']
 exact and_comm
theorem need_same {xs:List GItem}(hok:itemsOk xs=true){x:GItem}(hx:x∈xs):needI xs x=needR xs x:=by
 have hr:=items_rec hok hx
 have hk:x.Rec.Kind=1∨x.Rec.Kind=2∨x.Rec.Kind=3∨x.Rec.Kind=4∨x.Rec.Kind=5:=by
  simp only[recOk,inR,Bool.and_eq_true,Bool.or_eq_true,decide_eq_true_eq] at hr
  omega
 have hself:∀ k,x.Rec.Kind=k→mailIs k x.Rec.Valid x.Rec.Uid x.Rec=true:=fun k h=>by simp[mailIs,kindIs,h]
 unfold needI needR
 rcases hk with h | h | h | h | h
 ·simp only[if_pos h]
  rw[there_same hok]
  have hp:kindIs 1 x.Rec.Valid x.Rec=true:=kindIs_iff.2 ⟨h,rfl⟩
  cases hb:boxAt x.Rec.Valid xs with
  | none=>simp[sameI]
  | some b=>
   have hl:=boxAt_lat hb
   have hm:=lat_mem hl
   have ht:=(top_go xs none b hl).2
   show(true && pvEqL (eItem b) (eItem x))=(!(xs.any (biggerB x)) && true)
   rw[Bool.true_and,Bool.and_true,Bool.eq_iff_iff,pv_eq,Bool.not_eq_true',List.any_eq_false]
   constructor
   ·rintro rfl y hy hc
    unfold biggerB at hc
    rw[Bool.and_eq_true] at hc
    rw[ht y hy hc.1] at hc
    exact absurd hc.2 (by decide)
   intro hn
   have h1:byNextB x b=false:=by
    have:=hn b hm.1
    unfold biggerB at this
    rw[hm.2,Bool.true_and] at this
    simpa using this
   have h2:=ht x hx hp
   refine items_eq hok hm.1 hx ?_
   unfold byNextB at h1 h2
   split at h1<;>split at h2<;>simp only[decide_eq_false_iff_not] at * <;>omega
 ·have k1:¬ x.Rec.Kind=1:=by omega
  simp only[if_neg k1,if_pos h]
  rw[drop_lat hok,same_seq hok hx (kindIs_iff.2 ⟨h,rfl⟩)]
 ·have k1:¬ x.Rec.Kind=1:=by omega
  have k2:¬ x.Rec.Kind=2:=by omega
  have k5:¬ x.Rec.Kind=5:=by omega
  have k3:x.Rec.Kind=3∨x.Rec.Kind=4:=by omega
  simp only[if_neg k1,if_neg k2,if_neg k5,if_pos k3]
  rw[there_same hok,h,same_seq hok hx (hself 3 h)]
  refine congrArg (· && _) ?_
  unfold mailAt
  cases (boxAt x.Rec.Valid xs).isSome<;>cases (lat (mailIs 5 x.Rec.Valid x.Rec.Uid) bySeqB xs).isSome<;>simp
 ·have k1:¬ x.Rec.Kind=1:=by omega
  have k2:¬ x.Rec.Kind=2:=by omega
  have k5:¬ x.Rec.Kind=5:=by omega
  have k3:x.Rec.Kind=3∨x.Rec.Kind=4:=by omega
  simp only[if_neg k1,if_neg k2,if_neg k5,if_pos k3]
  rw[there_same hok,h,same_seq hok hx (hself 4 h)]
  refine congrArg (· && _) ?_
  unfold mailAt
  cases (boxAt x.Rec.Valid xs).isSome<;>cases (lat (mailIs 5 x.Rec.Valid x.Rec.Uid) bySeqB xs).isSome<;>simp
 have k1:¬ x.Rec.Kind=1:=by omega
 have k2:¬ x.Rec.Kind=2:=by omega
 have k3:¬ (x.Rec.Kind=3∨x.Rec.Kind=4):=by omega
 simp only[if_neg k1,if_neg k2,if_neg k3,if_pos h]
 rw[there_same hok,same_seq hok hx (hself 5 h)]
theorem need_one {xs:List GItem}(hok:itemsOk xs=true){k:Nat}{x:GItem}(hx:x∈xs):needZ xs k x=needX xs k x:=by
 unfold needZ needX;rw[need_same hok hx]
end Go.Av

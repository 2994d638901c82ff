/- What the items tell: the program's way of telling it and the reference's are one. -/
import Derived.Test.YtjbokkoiicoahaaGreatDoorJ1
namespace Go.Av
open Go
set_option linter.unusedVariables false
set_option linter.unusedSimpArgs false
theorem asc_ext :∀{l m:List Int},l.Pairwise (· < ·)→m.Pairwise (· < ·)→(∀ x,x∈l↔x∈m)→l=m
 | [],[],_,_,_=>rfl
 | [],b::m,_,_,h=>absurd ((h b).2 (List.mem_cons_self ..)) (by simp)
 | a::l,[],_,_,h=>absurd ((h a).1 (List.mem_cons_self ..)) (by simp)
 | a::l,b::m,hl,hm,h=>by
  rw[List.pairwise_cons] at hl hm
  have e:a=b:=by
   rcases List.mem_cons.1 ((h a).1 (List.mem_cons_self ..)) with e | e
   ·exact e
   rcases List.mem_cons.1 ((h b).2 (List.mem_cons_self ..)) with e2 | e2
   ·exact e2.symm
   have:=hm.1 a e;have:=hl.1 b e2;omega
  subst e
  refine congrArg _ (asc_ext hl.2 hm.2 fun x=>⟨fun hx=> ?_,fun hx=> ?_⟩)
  ·rcases List.mem_cons.1 ((h x).1 (List.mem_cons_of_mem _ hx)) with e | e
   ·have:=hl.1 x hx;omega
   exact e
  rcases List.mem_cons.1 ((h x).2 (List.mem_cons_of_mem _ hx)) with e | e
  ·have:=hm.1 x hx;omega
  exact e
theorem compact_asc (zs:List Int)(hs:zs.Pairwise (·≤·)):(Lib.compact zs).Pairwise (· < ·)∧∀ x,x∈Lib.compact zs↔x∈zs:=by
 have hd:∀ i j:Nat,i≤j→j < zs.length→zs.toArray[i]! ≤zs.toArray[j]! :=by
  intro i j hij hj
  rcases Nat.lt_or_eq_of_le hij with h | rfl
  ·have:=List.pairwise_iff_getElem.1 hs i j (by omega) hj h
   simpa [getElem!_pos,hj,show i < zs.length by omega] using this
  exact Int.le_refl _
 have main:∀ m,m≤zs.length→(Lib.compactUpTo zs.toArray m).Pairwise (· < ·)∧∀ x,x∈Lib.compactUpTo zs.toArray m↔∃ j,j < m∧zs.toArray[j]! =x:=by
  intro m
  induction m with
  | zero=>intro _;exact⟨.nil,fun x=>by simp[Lib.compactUpTo]⟩
  | succ m ih=>
   intro hm
   obtain⟨h1,h2⟩:=ih (by omega)
   rw[Lib.compactUpTo_succ]
   by_cases hk:Lib.keeps zs.toArray m=true
   ·rw [if_pos hk]
    refine⟨List.pairwise_append.2 ⟨h1,List.pairwise_singleton ..,fun x hx y hy=> ?_⟩,fun x=> ?_⟩
    ·rw [List.mem_singleton.1 hy]
     obtain⟨j,hj,rfl⟩:=(h2 x).1 hx
     have hk:=of_decide_eq_true hk
     have hk:=hk.resolve_left (by omega)
     have h3:=hd j (m - 1) (by omega) (by omega)
     have h4:=hd (m - 1) m (by omega) (by omega)
     generalize zs.toArray[m]! =a at *
     generalize zs.toArray[m - 1]! =b at *
     generalize zs.toArray[j]! =c at *
     omega
    rw[List.mem_append,h2,List.mem_singleton]
    constructor
    ·rintro(⟨j,hj,rfl⟩ | rfl)
     ·exact⟨j,by omega,rfl⟩
     exact⟨m,by omega,rfl⟩
    rintro⟨j,hj,rfl⟩
    rcases Nat.lt_or_eq_of_le (Nat.le_of_lt_succ hj) with h | rfl
    ·exact .inl ⟨j,h,rfl⟩
    exact .inr rfl
   rw[if_neg hk,List.append_nil]
   refine⟨h1,fun x=> ?_⟩
   rw[h2]
   have hk:¬ (m=0∨zs.toArray[m]! ≠zs.toArray[m - 1]!):=fun h=>hk (decide_eq_true h)
   have hm0:m≠0:=fun e=>hk (.inl e)
   have he:zs.toArray[m]! =zs.toArray[m - 1]! :=Classical.byContradiction fun h=>hk (.inr h)
   constructor
   ·rintro⟨j,hj,rfl⟩;exact⟨j,by omega,rfl⟩
   rintro⟨j,hj,rfl⟩
   rcases Nat.lt_or_eq_of_le (Nat.le_of_lt_succ hj) with h | rfl
   ·exact⟨j,h,rfl⟩
   exact⟨j - 1,by omega,he.symm⟩
 obtain⟨h1,h2⟩:=main zs.length (Nat.le_refl _)
 refine⟨h1,fun x=>(h2 x).trans ⟨?_,?_⟩⟩
 ·rintro⟨j,hj,rfl⟩;simp[getElem!_pos,hj]
 intro hx
 obtain⟨j,hj,rfl⟩:=List.mem_iff_getElem.1 hx
 exact⟨j,hj,by simp[getElem!_pos,hj]⟩
theorem numS_spec (p:GRec→Bool)(f:GRec→Int)(xs:List GItem):(numS p f xs).Pairwise (· < ·)∧∀ n,n∈numS p f xs↔∃ x∈xs,p x.Rec=true∧f x.Rec=n:=by
 have hs:(sortI (numL p f xs)).Pairwise (·≤·):=by
  have h:=List.pairwise_mergeSort (le:=fun x y:Int=>decide (x≤y)) (fun a b c h1 h2=>by simp at *;omega) (fun a b=>by simp;omega) (numL p f xs)
  exact h.imp fun h=>of_decide_eq_true h
 obtain⟨h1,h2⟩:=compact_asc _ hs
 refine⟨h1,fun n=>(h2 n).trans ?_⟩
 rw[show n∈sortI (numL p f xs)↔n∈numL p f xs from(List.mergeSort_perm _ _).mem_iff]
 simp only[numL,List.mem_map,List.mem_filter]
 constructor
 ·rintro⟨x,⟨h3,h4⟩,rfl⟩;exact⟨x,h3,h4,rfl⟩
 rintro⟨x,h3,h4,rfl⟩;exact⟨x,⟨h3,h4⟩,rfl⟩
theorem compact_len (zs:List Int):(Lib.compact zs).length≤zs.length:=by
 unfold Lib.compact Lib.compactUpTo
 rw[List.length_map]
 have:=List.length_filter_le (Lib.keeps zs.toArray) (List.range zs.length)
 rwa [List.length_range] at this
theorem num_le (p:GRec→Bool)(f:GRec→Int)(xs:List GItem):(numS p f xs).length≤xs.length:=by
 have h1:=compact_len (sortI (numL p f xs))
 have h2:=List.length_filter_le (fun x:GItem=>p x.Rec) xs
 have h3:(sortI (numL p f xs)).length=(numL p f xs).length:=List.length_mergeSort _
 have h4:(numL p f xs).length=(xs.filter fun x=>p x.Rec).length:=by unfold numL;rw[List.length_map]
 unfold numS;omega
theorem insS_eq (zs:List Int)(x:Int):insS zs x=zs.filter (fun y=>decide (y < x))++x::zs.filter (fun y=>decide (x < y)):=by simp[insS]
theorem insS_mem {zs:List Int}{x n:Int}:n∈insS zs x↔n=x∨n∈zs:=by
 simp only[insS_eq,List.mem_append,List.mem_cons,List.mem_filter,decide_eq_true_eq]
 constructor
 ·rintro(h | h | h)
  ·exact .inr h.1
  ·exact .inl h
  exact .inr h.1
 rintro(h | h)
 ·exact .inr (.inl h)
 rcases Int.lt_trichotomy n x with h2 | h2 | h2
 ·exact .inl ⟨h,h2⟩
 ·exact .inr (.inl h2)
 exact .inr (.inr ⟨h,h2⟩)
theorem insS_asc {zs:List Int}{x:Int}(h:zs.Pairwise (· < ·)):(insS zs x).Pairwise (· < ·):=by
 rw[insS_eq]
 refine List.pairwise_append.2 ⟨h.sublist List.filter_sublist,List.pairwise_cons.2 ⟨fun a ha=> ?_,h.sublist List.filter_sublist⟩,fun a ha b hb=> ?_⟩
 ·exact of_decide_eq_true (List.mem_filter.1 ha).2
 have h1:a < x:=of_decide_eq_true (List.mem_filter.1 ha).2
 rcases List.mem_cons.1 hb with rfl | hb
 ·exact h1
 have h2:x < b:=of_decide_eq_true (List.mem_filter.1 hb).2
 omega
theorem insF_spec (q:GRec→Bool)(f:GRec→Int)(xs:List GItem):(insF q f xs).Pairwise (· < ·)∧∀ n,n∈insF q f xs↔∃ x∈xs,q x.Rec=true∧f x.Rec=n:=by
 have main:∀(xs:List GItem) (s:List Int),s.Pairwise (· < ·)→(xs.foldl (insStep q f) s).Pairwise (· < ·)∧∀ n,n∈xs.foldl (insStep q f) s↔n∈s∨∃ x∈xs,q x.Rec=true∧f x.Rec=n:=by
  intro xs
  induction xs with
  | nil=>intro s h;exact⟨h,fun n=>by simp⟩
  | cons x xs ih=>
   intro s h
   have hs:(insStep q f s x).Pairwise (· < ·):=by unfold insStep;split;exact insS_asc h;exact h
   obtain⟨h1,h2⟩:=ih _ hs
   refine⟨h1,fun n=>(h2 n).trans ?_⟩
   have hm:n∈insStep q f s x↔n∈s∨(q x.Rec=true∧f x.Rec=n):=by
    unfold insStep
    split
    ·rename_i hq;rw[insS_mem];simp only[hq,true_and]
     constructor
     ·rintro(h | h);exact .inr h.symm;exact .inl h
     rintro(h | h);exact .inr h;exact .inl h.symm
    rename_i hq;simp[hq]
   rw[hm]
   simp only[List.mem_cons,exists_eq_or_imp]
   exact or_assoc
 obtain⟨h1,h2⟩:=main xs [] .nil
 exact⟨h1,fun n=>(h2 n).trans (by simp)⟩
theorem st_none (p:GRec→Bool)(lt:GItem→GItem→Bool)(x:GItem):latStep p lt none x=if p x.Rec=true then some x else none:=by simp[latStep]
theorem st_some (p:GRec→Bool)(lt:GItem→GItem→Bool)(y x:GItem):latStep p lt (some y) x=if p x.Rec=true∧lt y x=true then some x else some y:=by simp[latStep]
theorem lat_go {p:GRec→Bool}{lt:GItem→GItem→Bool}:∀(xs:List GItem) (b:Option GItem),(xs.foldl (latStep p lt) b).isSome=(b.isSome || xs.any fun x=>p x.Rec)∧∀ x,xs.foldl (latStep p lt) b=some x→b=some x∨(x∈xs∧p x.Rec=true)
 | [],b=>⟨by simp,fun x h=>.inl h⟩
 | y::ys,b=>by
  obtain⟨h1,h2⟩:=lat_go (p:=p) (lt:=lt) ys (latStep p lt b y)
  have hs:(latStep p lt b y).isSome=(b.isSome || p y.Rec):=by
   cases b with
   | none=>rw[st_none];cases p y.Rec<;>simp
   | some z=>rw[st_some];split<;>simp
  refine⟨by rw[List.foldl_cons,h1,hs,List.any_cons,Bool.or_assoc],fun x hx=> ?_⟩
  rcases h2 x hx with h | h
  ·cases b with
   | none=>
    rw[st_none] at h
    split at h
    ·rename_i hp
     simp only[Option.some.injEq] at h
     subst h
     exact .inr ⟨List.mem_cons_self ..,hp⟩
    cases h
   | some z=>
    rw[st_some] at h
    split at h
    ·rename_i hp
     simp only[Option.some.injEq] at h
     subst h
     exact .inr ⟨List.mem_cons_self ..,hp.1⟩
    exact .inl h
  exact .inr ⟨List.mem_cons_of_mem _ h.1,h.2⟩
theorem lat_isSome (p:GRec→Bool)(lt:GItem→GItem→Bool)(xs:List GItem):(lat p lt xs).isSome=xs.any fun x=>p x.Rec:=by
 have:=(lat_go (p:=p) (lt:=lt) xs none).1;simpa [lat] using this
theorem lat_mem {p:GRec→Bool}{lt:GItem→GItem→Bool}{xs:List GItem}{x:GItem}(h:lat p lt xs=some x):x∈xs∧p x.Rec=true:=by
 rcases(lat_go xs none).2 x h with h | h
 ·cases h
 exact h
theorem lat_congr {p q:GRec→Bool}{lt:GItem→GItem→Bool}{xs:List GItem}(h:∀ x∈xs,p x.Rec=q x.Rec):lat p lt xs=lat q lt xs:=by
 have main:∀(xs:List GItem) (b:Option GItem),(∀ x∈xs,p x.Rec=q x.Rec)→xs.foldl (latStep p lt) b=xs.foldl (latStep q lt) b:=by
  intro xs
  induction xs with
  | nil=>intro b _;rfl
  | cons x xs ih=>
   intro b h
   rw[List.foldl_cons,List.foldl_cons,show latStep p lt b x=latStep q lt b x by unfold latStep;rw[h x (List.mem_cons_self ..)]]
   exact ih _ fun y hy=>h y (List.mem_cons_of_mem _ hy)
 exact main xs none h
theorem next_go {p:GRec→Bool}:∀(xs:List GItem) (b:Option GItem) (x:GItem),xs.foldl (latStep p byNextB) b=some x→(∀ y,b=some y→y.Rec.Next≤x.Rec.Next)∧∀ y∈xs,p y.Rec=true→y.Rec.Next≤x.Rec.Next
  | [],b,x,h=>by
    have h:b=some x:=h
    exact⟨fun y hy=>by rw[h] at hy;cases hy;exact Int.le_refl _,fun y hy=>by cases hy⟩
  | z::zs,b,x,h=>by
    obtain⟨h1,h2⟩:=next_go zs (latStep p byNextB b z) x h
    have hb:(∀ y,b=some y→y.Rec.Next≤x.Rec.Next)∧(p z.Rec=true→z.Rec.Next≤x.Rec.Next):=by
      cases b with
      | none=>
        rw[st_none] at h1
        exact⟨fun y hy=>(nomatch hy),fun hp=>h1 z (if_pos hp)⟩
      | some w=>
        rw[st_some] at h1
        by_cases hc:p z.Rec=true∧byNextB w z=true
        · rw[if_pos hc] at h1
          have h3:=h1 z rfl
          have h4:=hc.2
          refine⟨fun y hy=> ?_,fun _=>h3⟩
          cases hy
          unfold byNextB at h4
          split at h4
          · omega
          · have:=of_decide_eq_true h4;omega
        · rw[if_neg hc] at h1
          have h3:=h1 w rfl
          refine⟨h1,fun hp=> ?_⟩
          have h4:¬ byNextB w z=true:=fun h=>hc ⟨hp,h⟩
          unfold byNextB at h4
          split at h4
          · omega
          · have h4:¬ w.Rec.Next < z.Rec.Next:=fun h=>h4 (decide_eq_true h)
            omega
    refine⟨hb.1,fun y hy hp=> ?_⟩
    rcases List.mem_cons.1 hy with rfl | hy
    · exact hb.2 hp
    · exact h2 y hy hp
theorem lat_next {p:GRec→Bool}{xs:List GItem}{x:GItem}(h:lat p byNextB xs=some x):∀ y∈xs,p y.Rec=true→y.Rec.Next≤x.Rec.Next:=(next_go xs none x h).2
theorem max_le {β:Type}(g:β→Int):∀(l:List β) (a B:Int),l.foldl (fun n u=>max n (g u)) a≤B↔a≤B∧∀ u∈l,g u≤B
 | [],a,B=>by simp
 | u::l,a,B=>by
  rw[List.foldl_cons,max_le g l]
  simp only[List.mem_cons,forall_eq_or_imp]
  constructor
  ·intro h;exact⟨by omega,by omega,h.2⟩
  intro h;exact⟨by omega,h.2.2⟩
theorem fm_filter {β:Type}{f:Int→Option β}{g:Int→β}:∀(l:List Int),(∀ u∈l,∀ y,f u=some y→y=g u)→l.filterMap f=(l.filter fun u=>(f u).isSome).map g
 | [],_=>rfl
 | u::l,h=>by
  have ih:=fm_filter l fun u hu=>h u (List.mem_cons_of_mem _ hu)
  cases hf:f u with
  | none=>simp[List.filterMap_cons,List.filter_cons,hf,ih]
  | some y=>simp[List.filterMap_cons,List.filter_cons,hf,ih,h u (List.mem_cons_self ..) y hf]
theorem rec_facts {r:GRec}(h:recOk r=true):1≤r.Valid∧r.Valid≤9999∧(r.Kind=1→1≤r.Next∧r.Next≤10000)∧(r.Kind=2→r.Uid=0)∧(r.Kind=3∨r.Kind=5→1≤r.Uid∧r.Uid≤9999):=by
 simp only[recOk,inR,Bool.and_eq_true,Bool.or_eq_true,decide_eq_true_eq] at h
 omega
theorem items_go :∀(pre xs:List GItem),itGo pre xs=true→∀ x∈xs,itmB x=true
 | _,[],_,x,hx=>by cases hx
 | pre,y::xs,h,x,hx=>by
  unfold itGo at h
  rw[Bool.and_eq_true,Bool.and_eq_true] at h
  rcases List.mem_cons.1 hx with rfl | hx
  ·exact h.1.1
  exact items_go _ xs h.2 x hx
theorem items_rec {xs:List GItem}(h:itemsOk xs=true){x:GItem}(hx:x∈xs):recOk x.Rec=true:=by
 unfold itemsOk at h
 rw[Bool.and_eq_true] at h
 have:=items_go _ _ h.2 x hx
 unfold itmB at this
 rw[Bool.and_eq_true] at this
 exact this.2
theorem items_seq {xs:List GItem}(h:itemsOk xs=true){x:GItem}(hx:x∈xs):1≤x.Seq∧x.Seq≤1000000000:=by
 unfold itemsOk at h
 rw[Bool.and_eq_true] at h
 have:=items_go _ _ h.2 x hx
 unfold itmB at this
 rw[Bool.and_eq_true] at this
 simpa [inR] using this.1
theorem items_len {xs:List GItem}(h:itemsOk xs=true):xs.length≤200:=by
 unfold itemsOk at h
 rw[Bool.and_eq_true] at h
 have:=of_decide_eq_true h.1
 omega
theorem drop_lat {xs:List GItem}(h:itemsOk xs=true)(v:Int):lat (mailIs 2 v 0) bySeqB xs=lat (kindIs 2 v) bySeqB xs:=by
 refine lat_congr fun x hx=> ?_
 unfold mailIs
 by_cases hk:kindIs 2 v x.Rec=true
 ·rw [hk]
  have h2:x.Rec.Kind=2:=by
   unfold kindIs at hk;rw[Bool.and_eq_true] at hk;exact of_decide_eq_true hk.1
  rw[(rec_facts (items_rec h hx)).2.2.2.1 h2];rfl
 simp[hk]
theorem kindIs_iff {k v:Int}{r:GRec}:kindIs k v r=true↔r.Kind=k∧r.Valid=v:=by simp[kindIs]
theorem boxAt_some {v:Int}{xs:List GItem}:(boxAt v xs).isSome=true↔(xs.any fun x=>kindIs 2 v x.Rec)=false∧(xs.any fun x=>kindIs 1 v x.Rec)=true:=by
 unfold boxAt
 rw[lat_isSome]
 by_cases h:(xs.any fun x=>kindIs 2 v x.Rec)=true
 ·rw [if_pos h,h];simp
 rw[if_neg h,lat_isSome];simp only[Bool.not_eq_true] at h;simp[h]
theorem boxAt_lat {v:Int}{xs:List GItem}{x:GItem}(h:boxAt v xs=some x):lat (kindIs 1 v) byNextB xs=some x:=by
 unfold boxAt at h
 split at h
 ·cases h
 exact h
theorem next_same {xs:List GItem}(hok:itemsOk xs=true){v:Int}{x:GItem}(hx:lat (kindIs 1 v) byNextB xs=some x):nextS x.Rec.Next (numS (uidP v) GRec.Uid xs)=nextR v xs:=by
 have hm:=lat_mem hx
 have hv:=(kindIs_iff.1 hm.2)
 have hr:=rec_facts (items_rec hok hm.1)
 have hb:∀ B:Int,nextS x.Rec.Next (numS (uidP v) GRec.Uid xs)≤B↔nextR v xs≤B:=by
  intro B
  unfold nextR nextS
  rw[max_le (fun u:Int=>u+1),max_le (fun x:GItem=>nextK v x.Rec)]
  constructor
  ·rintro⟨h1,h2⟩
   refine⟨by have:=hr.2.2.1 hv.1;omega,fun y hy=> ?_⟩
   unfold nextK
   split
   ·rename_i hk
    rw[Bool.and_eq_true] at hk
    exact Int.le_trans (lat_next hx y hy (kindIs_iff.2 ⟨of_decide_eq_true hk.2,of_decide_eq_true hk.1⟩)) h1
   split
   ·rename_i hk
    exact h2 _ (((numS_spec _ _ _).2 _).2 ⟨y,hy,hk,rfl⟩)
   have:=hr.2.2.1 hv.1;omega
  rintro⟨h1,h2⟩
  refine⟨?_,fun u hu=> ?_⟩
  ·have:=h2 x hm.1
   unfold nextK at this
   rwa [if_pos (by rw[hv.1,hv.2];simp)] at this
  obtain⟨y,hy,hk,rfl⟩:=((numS_spec _ _ _).2 _).1 hu
  have:=h2 y hy
  unfold nextK at this
  rw[if_neg,if_pos hk] at this
  ·exact this
  intro hc
  rw[Bool.and_eq_true] at hc
  have h1:=of_decide_eq_true hc.2
  unfold uidP at hk
  rw[Bool.or_eq_true,kindIs_iff,kindIs_iff] at hk
  omega
 exact Int.le_antisymm ((hb _).2 (Int.le_refl _)) ((hb _).1 (Int.le_refl _))
theorem mails_same {xs:List GItem}{v:Int}(hb:(boxAt v xs).isSome=true):(numS (uidP v) GRec.Uid xs).filterMap (mailOf v xs)=mailsR v xs:=by
  unfold mailsR uidsR
  rw[fm_filter (g:=mailR v xs)]
  · refine congrArg _ (asc_ext (((numS_spec _ _ _).1).sublist List.filter_sublist) (insF_spec _ _ _).1 fun u=> ?_)
    rw[List.mem_filter,(numS_spec _ _ _).2,(insF_spec _ _ _).2]
    have e:(mailOf v xs u).isSome=(mailAt v u xs).isSome:=by unfold mailOf;split<;>simp[*]
    have e2:(mailAt v u xs).isSome=true↔(xs.any fun x=>mailIs 5 v u x.Rec)=false∧(xs.any fun x=>mailIs 3 v u x.Rec)=true:=by
      unfold mailAt
      rw[if_pos hb,lat_isSome]
      by_cases h:(xs.any fun x=>mailIs 5 v u x.Rec)=true
      · rw[if_pos h,h];simp
      · rw[if_neg h,lat_isSome];simp only[Bool.not_eq_true] at h;simp[h]
    rw[e,e2]
    constructor
    · rintro⟨_,h1,h2⟩
      obtain⟨x,hx,hp⟩:=List.any_eq_true.1 h2
      unfold mailIs at hp
      rw[Bool.and_eq_true] at hp
      have hu:=of_decide_eq_true hp.2
      refine⟨x,hx,?_,hu⟩
      unfold uidQ
      rw[Bool.and_eq_true,lat_isSome,hu,h1]
      exact⟨hp.1,rfl⟩
    · rintro⟨x,hx,hq,hu⟩
      unfold uidQ at hq
      rw[Bool.and_eq_true,lat_isSome] at hq
      refine⟨⟨x,hx,by unfold uidP;rw[hq.1];rfl,hu⟩,by rw[← hu];simpa using hq.2,List.any_eq_true.2 ⟨x,hx,?_⟩⟩
      unfold mailIs
      rw[hq.1,hu];simp
  · intro u _ y hy
    unfold mailOf at hy
    split at hy
    · rename_i hs
      simp only[Option.some.injEq] at hy
      subst hy
      unfold mailR
      have:mailAt v u xs=lat (mailIs 3 v u) bySeqB xs:=by
        unfold mailAt at hs ⊢
        rw[if_pos hb] at hs ⊢
        split
        · rename_i h;rw[if_pos h] at hs;cases hs
        · rfl
      rw[this]
    · cases hy
theorem box_same {xs:List GItem}(hok:itemsOk xs=true){v:Int}{x:GItem}(hx:boxAt v xs=some x):boxS xs x=boxR xs v:=by
 have hl:=boxAt_lat hx
 have hv:=(kindIs_iff.1 (lat_mem hl).2).2
 unfold boxS boxR
 rw[hv,hl,next_same hok hl,mails_same (by rw[hx];rfl)]
 rfl
theorem state_same {xs:List GItem}(hok:itemsOk xs=true):boxesS xs=boxesR xs:=by
  unfold boxesS boxesR validsR
  rw[fm_filter (g:=boxR xs)]
  · refine congrArg _ (asc_ext (((numS_spec _ _ _).1).sublist List.filter_sublist) (insF_spec _ _ _).1 fun v=> ?_)
    rw[List.mem_filter,(numS_spec _ _ _).2,(insF_spec _ _ _).2]
    have e:(boxOf xs v).isSome=(boxAt v xs).isSome:=by unfold boxOf;split<;>simp[*]
    rw[e,boxAt_some]
    constructor
    · rintro⟨⟨x,hx,hp,hv⟩,h1,h2⟩
      refine⟨x,hx,?_,hv⟩
      unfold boxQ
      rw[Bool.and_eq_true,drop_lat hok,lat_isSome,hv,h1]
      exact⟨hp,rfl⟩
    · rintro⟨x,hx,hq,hv⟩
      unfold boxQ at hq
      rw[Bool.and_eq_true,drop_lat hok,lat_isSome,hv] at hq
      refine⟨⟨x,hx,hq.1,hv⟩,by simpa using hq.2,List.any_eq_true.2 ⟨x,hx,?_⟩⟩
      exact kindIs_iff.2 ⟨of_decide_eq_true hq.1,hv⟩
  · intro v _ y hy
    unfold boxOf at hy
    split at hy
    · rename_i hs
      simp only[Option.some.injEq] at hy
      subst hy
      obtain⟨x,hx⟩:=Option.isSome_iff_exists.1 hs
      rw[hx];exact box_same hok hx
    · cases hy
theorem stateR_S (xs:List GItem):stateR xs=stateS xs:=by
 unfold stateR stateS
 by_cases h:itemsOk xs=true
 ·rw [if_pos h,if_pos h,state_same h]
 rw[if_neg h,if_neg h]
theorem boxAt_mem {v:Int}{xs:List GItem}{x:GItem}(h:boxAt v xs=some x):x∈xs:=(lat_mem (boxAt_lat h)).1
theorem mailAt_mem {v u:Int}{xs:List GItem}{x:GItem}(h:mailAt v u xs=some x):x∈xs:=by
 unfold mailAt at h
 split at h
 ·split at h
  ·cases h
  exact(lat_mem h).1
 cases h
theorem mail_some {v:Int}{xs:List GItem}{u:Int}{m:GMail}(h:mailOf v xs u=some m):∃ x∈xs,m.Text=x.Rec.Text:=by
 unfold mailOf at h
 split at h
 ·rename_i hs
  obtain⟨x,hx⟩:=Option.isSome_iff_exists.1 hs
  simp only[Option.some.injEq] at h
  subst h
  exact⟨x,mailAt_mem hx,by rw[hx];rfl⟩
 cases h
theorem box_some {xs:List GItem}{v:Int}{b:GBox}(h:boxOf xs v=some b):∃ x∈xs,b=boxS xs x:=by
 unfold boxOf at h
 split at h
 ·rename_i hs
  obtain⟨x,hx⟩:=Option.isSome_iff_exists.1 hs
  simp only[Option.some.injEq] at h
  subst h
  exact⟨x,boxAt_mem hx,by rw[hx];rfl⟩
 cases h
theorem boxes_len (xs:List GItem):(boxesS xs).length≤xs.length:=by
 have h1:=List.length_filterMap_le (boxOf xs) (numS boxP GRec.Valid xs)
 have h2:=num_le boxP GRec.Valid xs
 unfold boxesS;omega
theorem mails_len (xs:List GItem)(x:GItem):(boxS xs x).Mails.length≤xs.length:=by
 have h1:=List.length_filterMap_le (mailOf x.Rec.Valid xs) (numS (uidP x.Rec.Valid) GRec.Uid xs)
 have h2:=num_le (uidP x.Rec.Valid) GRec.Uid xs
 show(List.filterMap _ _).length≤_
 omega
theorem zs_item {xs:List GItem}(hz:∀ q∈zsItemS xs,q≤1048576){x:GItem}(h:x∈xs):x.Rec.User.size≤1048576∧x.Rec.Name.size≤1048576∧x.Rec.Text.size≤1048576:=by
 have h1:∀ q∈zsItem x,q≤1048576:=fun q hq=>hz q (List.mem_cons_of_mem _ (List.mem_flatMap.2 ⟨x,h,hq⟩))
 exact⟨h1 _ (by simp[zsItem,zsRec]),h1 _ (by simp[zsItem,zsRec]),h1 _ (by simp[zsItem,zsRec])⟩
theorem zs_boxes {xs:List GItem}(hok:itemsOk xs=true)(hz:∀ q∈zsItemS xs,q≤1048576):∀ q∈zsBoxS (boxesS xs),q≤1048576:=by
 have hl:=items_len hok
 have hb:=boxes_len xs
 intro q hq
 rcases List.mem_cons.1 hq with rfl | hq
 ·omega
 obtain⟨b,hb,hq⟩:=List.mem_flatMap.1 hq
 obtain⟨v,_,hv⟩:=List.mem_filterMap.1 hb
 obtain⟨x,hx,rfl⟩:=box_some hv
 have h1:=zs_item hz hx
 have h2:=mails_len xs x
 simp only[zsBox,List.mem_append,List.mem_cons,List.not_mem_nil,or_false,zsMailS,List.mem_flatMap] at hq
 have hm:∀ m∈(boxS xs x).Mails,m.Text.size≤1048576:=by
  intro m hm
  obtain⟨u,_,hu⟩:=List.mem_filterMap.1 hm
  obtain⟨y,hy,e⟩:=mail_some hu
  rw[e];exact(zs_item hz hy).2.2
 rcases hq with hq | hq | hq | ⟨m,hm2,hq⟩
 ·rw [hq];exact h1.1
 ·rw [hq];exact h1.2.1
 ·omega
 simp only[zsMail,List.mem_append,List.mem_cons,List.not_mem_nil,or_false] at hq
 rw[hq];exact hm m hm2
theorem itemsL_at {us:List GSeg}{i:Nat}{s:GSeg}(h:us[i]? =some s):itemsL (us.take (i+1))=itemsL (us.take i)++s.Items:=by
 rw[List.take_add_one,h,itemsL,List.flatMap_append];simp[itemsL]
theorem itemsL_le (us:List GSeg)(i:Nat):(itemsL (us.take i)).length≤(itemsL us).length:=by
 have h:=List.take_append_drop i us
 have h2:itemsL us=itemsL (us.take i)++itemsL (us.drop i):=by
  unfold itemsL;rw[← List.flatMap_append,h]
 rw[h2,List.length_append];omega
theorem itemsL_sum (us:List GSeg):(itemsL us).length≤(zsSegS us).sum:=by
 have main:∀ us:List GSeg,(itemsL us).length≤(us.flatMap zsSeg).sum:=by
  intro us
  induction us with
  | nil=>simp[itemsL]
  | cons s us ih=>
   have h1:(zsSeg s).sum=s.Items.length+(s.Items.flatMap zsItem).sum:=by simp[zsSeg,zsItemS]
   simp only[itemsL,List.flatMap_cons,List.length_append,List.sum_append] at ih ⊢
   omega
 have:=main us
 simp only[zsSegS,List.sum_cons]
 omega
theorem zs_itemsL {us:List GSeg}(h:∀ q∈zsSegS us,q≤1048576)(hl:(itemsL us).length≤1048576):∀ q∈zsItemS (itemsL us),q≤1048576:=by
 intro q hq
 rcases List.mem_cons.1 hq with rfl | hq
 ·exact hl
 obtain⟨x,hx,hq⟩:=List.mem_flatMap.1 hq
 obtain⟨s,hs,hx⟩:=List.mem_flatMap.1 hx
 refine h q (List.mem_cons_of_mem _ (List.mem_flatMap.2 ⟨s,hs,?_⟩))
 have:q∈zsItemS s.Items:=List.mem_cons_of_mem _ (List.mem_flatMap.2 ⟨x,hx,hq⟩)
 simp[zsSeg,this]
end Go.Av

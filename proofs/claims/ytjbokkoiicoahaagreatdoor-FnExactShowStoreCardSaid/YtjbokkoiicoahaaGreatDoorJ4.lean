/- Walks: numbers. -/
import Derived.Test.YtjbokkoiicoahaaGreatDoorSh
import Derived.Test.YtjbokkoiicoahaaGreatDoorAvg
import Derived.Test.YtjbokkoiicoahaaGreatDoorJ1
import Derived.Test.YtjbokkoiicoahaaGreatDoorJ3
namespace Go.Av
open Go Go.Proofs Go.RowKit Go.Sort
set_option maxRecDepth 100000
set_option linter.unusedVariables false
set_option linter.unusedSimpArgs false
theorem relL_ints {w:World}{I:Ft}:∀{zs:List Int} {xs:List Value} {G:Ft},RelL w I (zs.map eInt).flatten xs G→xs=zs.map (Value.int .i64)
 | [],xs,G,h=>by cases h;rfl
 | z::zs,xs,G,h=>by
  have h:RelL w I (.int .i64 z::(zs.map eInt).flatten) xs G:=h
  cases h with
  | cons c l v vs F G' H hv t hF hG d=>
   cases hv
   rw[relL_ints (zs:=zs) t];rfl
theorem ints_relL {w:World}{I:Ft}:∀(zs:List Int),RelL w I (zs.map eInt).flatten (zs.map (Value.int .i64)) none'
 | []=>.nil _
 | z::zs=>.cons _ _ _ _ none' none' none' (.int _ _ _) (ints_relL zs) (fun _ h=>h) (fun _ h=>h) (fun _ h=>h.elim)
theorem putCells_take (d:List Int)(cur:Array Value)(h:d.length≤cur.size):(putCells (Value.int .i64) 0 d.toArray cur).toList.take d.length=d.map (Value.int .i64):=by
 apply List.ext_getElem?
 intro i
 rw[List.getElem?_take,List.getElem?_map]
 by_cases hi:i < d.length
 ·rw [if_pos hi]
  have hc:i < cur.size:=by omega
  simp[putCells,hc,hi]
 rw[if_neg hi,List.getElem?_eq_none (by omega)];rfl
theorem putCells_size (d:Array Int)(cur:Array Value):(putCells (Value.int .i64) 0 d cur).size=cur.size:=by simp[putCells]
theorem heap_put {w:World}{g:Nat}{cur:Array Value}{e:TypeId}{d:Array Int}{n:Nat}{os:Array Obj}(hg:w.heap[g]? =some (.cells cur e (0,0))):
  (grow (putRow (Value.int .i64) (Sort.ahead w n) g 0 d) os).heap[g]? =some (.cells (putCells (Value.int .i64) 0 d cur) e (0,0)):=by
 obtain⟨hl,hg'⟩:=Array.getElem?_eq_some_iff.1 hg
 have h1:((putRow (Value.int .i64) (Sort.ahead w n) g 0 d).heap)[g]? =some (.cells (putCells (Value.int .i64) 0 d cur) e (0,0)):=by
  show(w.heap.modify g (onCells (putCells (Value.int .i64) 0 d)))[g]? =_
  rw[Array.getElem?_modify,if_pos rfl,hg];rfl
 show(((putRow (Value.int .i64) (Sort.ahead w n) g 0 d).heap)++os)[g]? =_
 rw[Array.getElem?_append_left (Array.getElem?_eq_some_iff.1 h1).1,h1]
theorem put_kept {w:World}{g:Nat}{d:Array Int}{n:Nat}{os:Array Obj}{F:Ft}(hg:F g):Kept (fun x=>F x∨w.heap.size≤x) w (grow (putRow (Value.int .i64) (Sort.ahead w n) g 0 d) os):=by
  have hs:(putRow (Value.int .i64) (Sort.ahead w n) g 0 d).heap.size=w.heap.size:=by simp[Sort.ahead]
  refine⟨rfl,rfl,rfl,?_,fun k hk=> ?_⟩
  · show w.heap.size≤((putRow (Value.int .i64) (Sort.ahead w n) g 0 d).heap++os).size
    rw[Array.size_append,hs];omega
  · have hk1:k≠g:=fun e=>hk (.inl (e ▸ hg))
    have hk2:k < w.heap.size:=by
      rcases Nat.lt_or_ge k w.heap.size with h | h
      · exact h
      · exact absurd (.inr h) hk
    show(((putRow (Value.int .i64) (Sort.ahead w n) g 0 d).heap)++os)[k]? =_
    rw[Array.getElem?_append_left (by rw[hs];exact hk2)]
    show(w.heap.modify g (onCells (putCells (Value.int .i64) 0 d)))[k]? =_
    rw[Array.getElem?_modify,if_neg (fun e=>hk1 e.symm)]
theorem holds_own {w:World}{g:Nat}{cur:Array Value}{e:TypeId}{zs:List Int}(hg:w.heap[g]? =some (.cells cur e (0,0)))(ht:cur.toList.take zs.length=zs.map (Value.int .i64)):Holds (Value.int .i64) w g 0 zs.toArray:=by
 intro j hj
 have hj:j < zs.length:=by simpa using hj
 have h1:(cur.toList.take zs.length)[j]? =some (.int .i64 zs[j]):=by rw[ht,List.getElem?_map,List.getElem?_eq_getElem hj];rfl
 rw[List.getElem?_take,if_pos hj,Array.getElem?_toList] at h1
 refine⟨?_,?_⟩
 ·simp [World.cell?,hg,h1,hj]
 simp[World.frozen?,hg]
theorem r_Sort (zs:List Int)(hz:zs.length < 4611686018427387904):RealM Tryz.prog 101 [.ow 1 (zs.map eInt)] [.ow 1 ((sortI zs).map eInt)] (.tup []):=by
 refine⟨⟨_,_,Tryz.func101,rfl,by kernel_rfl⟩,fun w hInv I F hFP vs hR hI hF=> ?_⟩
 have hlen:(sortI zs).length=zs.length:=List.length_mergeSort _
 cases hR with
 | cons c l v vs' F1 G H h t hF1 hG1 d=>
  cases t
  cases h with
  | one c v F1 h=>
   cases h with
   | ow sz rows v e xs F1 G1 hu how hr hG hb=>
    have hx:=relL_ints hr
    subst hx
    obtain⟨h1,hv | ⟨g,cap,cur,hv,h0,hg,hc1,hc2,hc3,ht⟩⟩:=how
    ·obtain⟨hv,hn⟩:=hv
     subst hv
     have hz0:zs=[]:=by simpa using hn
     subst hz0
     refine Calls.mono (Tryz.slices_Sort_int_none none 0 w) fun e' w' he=> ?_
     obtain⟨rfl,rfl⟩:=he
     refine⟨I,none',.tup _ _ _ (.nil _),?_,fun _ h=>h.elim,fun x hx=>⟨.inl hx,hI x hx,fun h=>h⟩,Kept.refl _ _⟩
     rw[show sortI []=[] from by simp[sortI]]
     exact .cons _ _ _ _ none' none' none' (.one _ _ _ (.ow 1 [] _ e [] none' none' (fun r hr=>by cases hr) (OwnsW.nil _ _ _ _) (.nil _) (fun _ h=>h) (fun b hb=>by cases hb))) (.nil _) (fun _ h=>h) (fun _ h=>h) (fun _ h=>h.elim)
    subst hv
    have hl0:(zs.map eInt).length=zs.length:=by simp
    rw[hl0] at ht hc1 ⊢
    rw[Nat.mul_one] at ht hc3
    have hFg:F g:=hF1 _ (hb g rfl).1
    refine Calls.mono (Tryz.slices_Sort_int g 0 cap zs w (holds_own hg ht) (Array.getElem?_eq_some_iff.1 hg).1 hz) fun e' w' he=> ?_
    obtain⟨rfl,n,os,rfl⟩:=he
    have hk:=put_kept (w:=w) (d:=(sortI zs).toArray) (n:=n) (os:=os) hFg
    refine⟨I,fun x=>x=g,.tup _ _ _ (.nil _),?_,fun x hx=> ?_,fun x hx=>⟨.inl hx,Nat.lt_of_lt_of_le (hI x hx) hk.size,fun h=> ?_⟩,hk⟩
    ·have how':OwnsW (grow (putRow (Value.int .i64) (Sort.ahead w n) g 0 (sortI zs).toArray) os) 0 e 1 (.slice (some ⟨g,0,none⟩) zs.length cap) ((sortI zs).map eInt).length ((sortI zs).map (Value.int .i64)):=by
      refine⟨by simp,.inr ⟨g,cap,putCells (Value.int .i64) 0 (sortI zs).toArray cur,by simp[hlen],Nat.zero_le _,heap_put hg,by simp[hlen];exact hc1,hc2,by rw[putCells_size];omega,?_⟩⟩
      have:=putCells_take (sortI zs) cur (by omega)
      simpa using this
     exact .cons _ _ _ _ (fun x=>x=g) none' (fun x=>x=g) (.one _ _ _ (.ow 1 _ _ e _ _ none' (fun r hr=>by obtain⟨z,_,rfl⟩:=List.mem_map.1 hr;rfl) how' (ints_relL _) (fun _ h=>h.elim) (fun b hb=>by simp[Value.ownBlock] at hb;exact⟨hb.symm,fun h=>h⟩))) (.nil _) (fun _ h=>h) (fun _ h=>h.elim) (fun _ _ h=>h)
    ·subst hx;exact⟨.inl hFg,Nat.lt_of_lt_of_le (hF _ hFg).1 hk.size⟩
    subst h;exact(hF _ hFg).2 hx
theorem compact_le (zs:List Int):(Lib.compact zs).length≤zs.length:=by
 unfold Lib.compact Lib.compactUpTo
 rw[List.length_map]
 have:=List.length_filter_le (Lib.keeps zs.toArray) (List.range zs.length)
 rwa [List.length_range] at this
theorem r_Compact (zs:List Int)(hz:zs.length≤9223372036854775807):RealC Tryz.prog 102 [.ow 1 (zs.map eInt)] (.ow 1 ((Lib.compact zs).map eInt)):=by
 refine⟨⟨_,_,Tryz.func102,rfl,by kernel_rfl⟩,fun w hInv I F hFP vs hR hI hF=> ?_⟩
 have hlen:=compact_le zs
 cases hR with
 | cons c l v vs' F1 G H h t hF1 hG1 d=>
  cases t
  cases h with
  | one c v F1 h=>
   cases h with
   | ow sz rows v e xs F1 G1 hu how hr hG hb=>
    have hx:=relL_ints hr
    subst hx
    obtain⟨h1,hv | ⟨g,cap,cur,hv,h0,hg,hc1,hc2,hc3,ht⟩⟩:=how
    ·obtain⟨hv,hn⟩:=hv
     subst hv
     have hz0:zs=[]:=by simpa using hn
     subst hz0
     refine Calls.mono (Tryz.slices_Compact_int_empty none 0 w) fun e' w' he=> ?_
     obtain⟨rfl,rfl⟩:=he
     refine⟨I,none',.one _ _ _ (.one _ _ _ ?_),fun _ h=>h.elim,fun x hx=>⟨.inl hx,hI x hx,fun h=>h⟩,Kept.refl _ _⟩
     rw[show Lib.compact ([]:List Int)=[] from rfl]
     exact .ow 1 [] _ e [] none' none' (fun r hr=>by cases hr) (OwnsW.nil _ _ _ _) (.nil _) (fun _ h=>h) (fun b hb=>by cases hb)
    subst hv
    have hl0:(zs.map eInt).length=zs.length:=by simp
    rw[hl0] at ht hc1 ⊢
    rw[Nat.mul_one] at ht hc3
    have hFg:F g:=hF1 _ (hb g rfl).1
    refine Calls.mono (Tryz.slices_Compact_int g 0 cap zs w (holds_own hg ht) hz hc1) fun e' w' he=> ?_
    obtain⟨rfl,n,hw⟩:=he
    generalize hd:Lib.compact zs++List.replicate (zs.length - (Lib.compact zs).length) 0=d' at hw
    have hw':w'=grow (putRow (Value.int .i64) (Sort.ahead w n) g 0 d'.toArray) #[]:=by rw[grow_empty];exact hw
    subst hw'
    have hdl:d'.length=zs.length:=by rw[← hd];simp;omega
    have hk:=put_kept (w:=w) (d:=d'.toArray) (n:=n) (os:=#[]) hFg
    refine⟨I,fun x=>x=g,.one _ _ _ (.one _ _ _ ?_),fun x hx=> ?_,fun x hx=>⟨.inl hx,Nat.lt_of_lt_of_le (hI x hx) hk.size,fun h=> ?_⟩,hk⟩
    ·have how':OwnsW (grow (putRow (Value.int .i64) (Sort.ahead w n) g 0 d'.toArray) #[]) 0 e 1 (.slice (some ⟨g,0,none⟩) (Lib.compact zs).length cap) ((Lib.compact zs).map eInt).length ((Lib.compact zs).map (Value.int .i64)):=by
      refine⟨by simp,.inr ⟨g,cap,putCells (Value.int .i64) 0 d'.toArray cur,by simp,Nat.zero_le _,heap_put hg,by simp;omega,hc2,by rw[putCells_size];omega,?_⟩⟩
      have h2:=putCells_take d' cur (by omega)
      have h3:=congrArg (List.take (Lib.compact zs).length) h2
      rw[List.take_take,Nat.min_eq_left (by omega),← List.map_take,← hd,List.take_left' rfl,hd] at h3
      simpa using h3
     exact .ow 1 _ _ e _ _ none' (fun r hr=>by obtain⟨z,_,rfl⟩:=List.mem_map.1 hr;rfl) how' (ints_relL _) (fun _ h=>h.elim) (fun b hb=>by simp[Value.ownBlock] at hb;exact⟨hb.symm,fun h=>h⟩)
    ·subst hx;exact⟨.inl hFg,Nat.lt_of_lt_of_le (hF _ hFg).1 hk.size⟩
    subst h;exact(hF _ hFg).2 hx
end Go.Av
namespace Go.Av
open Go Go.Proofs
set_option maxRecDepth 100000
set_option maxHeartbeats 4000000
set_option linter.unusedVariables false
set_option linter.unusedSimpArgs false
theorem num_at {p:GRec→Bool}{f:GRec→Int}{xs:List GItem}{i:Nat}{x:GItem}(h:xs[i]? =some x):numL p f (xs.take (i+1))=if p x.Rec=true then numL p f (xs.take i)++[f x.Rec] else numL p f (xs.take i):=by
 rw[List.take_add_one,h,Option.toList_some,numL,List.filter_append,List.map_append]
 by_cases hk:p x.Rec=true<;>simp[List.filter_cons,hk,numL]
theorem num_len (p:GRec→Bool)(f:GRec→Int)(xs:List GItem)(i:Nat):(numL p f (xs.take i)).length≤xs.length:=by
 have h1:=List.length_filter_le (fun x:GItem=>p x.Rec) (xs.take i)
 rw[List.length_take] at h1
 unfold numL;rw[List.length_map];omega
theorem sortI_len (zs:List Int):(sortI zs).length=zs.length:=List.length_mergeSort _
theorem rCompact (A:Alg)(hA:A=std)(zs:List Int)(h:zs.length≤9223372036854775807):RealC Tryz.prog 102 [.ow 1 (List.map eInt zs)] (.ow 1 (List.map eInt (Lib.compact zs))):=r_Compact zs h
theorem r_numBox (A:Alg)(hA:A=std)(r:GRec):Real Tryz.prog 71 [.agg (eRec r)] (.tup [.ii r.Valid,.bool (boxP r)]):=by
 obtain⟨b1,a9,b7,b2,b0,b4,b5,b3⟩:=r
 refine real_args (args':=[.agg [.ii b1,.ii a9,.ii b7,.ii b2,.ii b0,.str b4,.str b5,.str b3]]) (by rfl) ?_
 refine real tyOk Tryz.func71 (by kernel_rfl) (afun_of rfl ?_)
 refine gx hA 3 ?_
 refine gs ?_
 refine go_draw [0,1,3,4,5,2,6] (by cbv) ?_
 refine dz hA 7 ?_
 refine rt (gt ?_)
 show _=PV.tup [.ii a9,.bool (A.cmp .eql b1 1)]
 refine congrArg PV.tup ?_
 subst hA
 simp[boxP,uidP,std,ieq_dec,]
theorem r_numUid (A:Alg)(hA:A=std)(r:GRec)(v:Int):Real Tryz.prog 109 [.agg (eRec r),.rd [.ii v]] (.tup [.ii r.Uid,.bool (uidP v r)]):=by
 obtain⟨b1,a9,b7,b2,b0,b4,b5,b3⟩:=r
 refine real_args (args':=[.agg [.ii b1,.ii a9,.ii b7,.ii b2,.ii b0,.str b4,.str b5,.str b3],.rd [.ii v]]) (by rfl) ?_
 refine real tyOk Tryz.func109 (by kernel_rfl) (afun_of rfl ?_)
 refine gx hA 3 ?_
 refine gs ?_
 refine go_draw [0,1,2,3,4,5,6,7,8,10,9,11] (by cbv) ?_
 refine dn_ hA 4 ?_
 obtain⟨c8,d3,hc2⟩:∃(c8:Bool),c8=(kindIs 3 v (⟨b1,a9,b7,b2,b0,b4,b5,b3⟩:GRec))∧Real Tryz.prog 105 [.agg [.ii b1,.ii a9,.ii b7,.ii b2,.ii b0,.str b4,.str b5,.str b3],.ii 3,.ii v] (.bool c8):=⟨_,rfl,by exact r_impl_about A hA (⟨b1,a9,b7,b2,b0,b4,b5,b3⟩:GRec) 3 v⟩
 refine dops_callV rfl rfl (by cbv) (by cbv) hc2 (.inr rfl) ?_
 refine dn_ hA 1 ?_
 refine dops_split 10 rfl (fun c3=> ?_) (fun c3=> ?_)
 ·
  refine dz hA 6 ?_
  refine rt (gt ?_)
  refine congrArg PV.tup ?_
  subst d3
  subst hA
  simp[boxP,uidP,std,ieq_dec,c3]
 refine dn_ hA 2 ?_
 obtain⟨c6,d4,hc5⟩:∃(c6:Bool),c6=(kindIs 5 v (⟨b1,a9,b7,b2,b0,b4,b5,b3⟩:GRec))∧Real Tryz.prog 105 [.agg [.ii b1,.ii a9,.ii b7,.ii b2,.ii b0,.str b4,.str b5,.str b3],.ii 5,.ii v] (.bool c6):=⟨_,rfl,by exact r_impl_about A hA (⟨b1,a9,b7,b2,b0,b4,b5,b3⟩:GRec) 5 v⟩
 refine dops_callG rfl rfl rfl rfl (by cbv) (by cbv) hc5 (.inr rfl) ?_
 refine dz hA 3 ?_
 refine rt (gt ?_)
 refine congrArg PV.tup ?_
 subst d4 d3
 subst hA
 simp[boxP,uidP,std,ieq_dec,c3]
def Sr_numbers_box_1 (p0:RR)(p1:Int)(p2:Int)(p3:RR):St:={sl:=[.bad,.fn 71 [],.bad,.bad,.bad,.own 10,.bad,.bad,.bad,.bad,.bad,.sl 9 p0,.ii p1,.ii p2,.bad,.bad,.bad,.bad,.bad,.bad,.bad,.bad,.bad,.bad,.bad,.bad,.bad,.bad,.bad,.bad,.bad,.bad,.bad,.bad],bl:=[(10,⟨.arr,1,p3⟩)]}
theorem r_numbers_box (A:Alg)(hA:A=std)(xs:List GItem)(hx:List.length xs≤1048576):Real Tryz.prog 70 [.sl 9 (List.map eItem xs),.fn 71 []] (.ow 1 (List.map eInt (numS boxP GRec.Valid xs))):=by
 obtain⟨a8,c0⟩:=nm (xs.map eItem)
 have d5:=rlen_map hA c0
 refine real_args (args':=[.sl 9 a8,.fn 71 []]) (by subst c0;rfl) ?_
 refine real tyOk Tryz.func70 (by kernel_rfl) (afun_of rfl ?_)
 refine gx hA 1 ?_
 refine gx hA 2 ?_
 refine gs (gx hA 3 ?_)
 refine go_block ?_
 refine go_loopE (fun σ m=>∃(i:Nat) (n:Int) (R:RR),σ=(Sr_numbers_box_1 a8 (A.rlen a8) n R)∧(n=(i:Int)∧i≤List.length xs∧R=List.map eInt (numL boxP GRec.Valid (xs.take i)))∧m=List.length xs - i) _ [] [1,5,11,12,13] [10] (Sr_numbers_box_1 a8 (A.rlen a8) 0 ([])) rfl (by cbv) ⟨0,0,[],rfl,?_,rfl⟩ (fun σ m hI=> ?_)
 ·
  exact⟨rfl,Nat.zero_le _,rfl⟩
 obtain⟨i,n,R,rfl,⟨hn,hi,hR⟩,rfl⟩:=hI
 refine gx hA 1 ?_
 refine gs ?_
 refine gc (fun c1=> ?_) (fun c1=> ?_)
 ·
  have ec1:n < (A.rlen a8):=lss_t hA c1
  refine gk (gs ?_)
  refine go_block ?_
  refine gs (gr ?_)
  have c9:(0:Int)≤n:=by
   omega
  have d1:(Int.toNat n) < List.length xs:=by
   omega
  obtain⟨x2,hx2⟩:∃ x,(xs)[(Int.toNat n)]? =some x:=⟨_,List.getElem?_eq_getElem d1⟩
  have d8:=List.mem_of_getElem? hx2
  obtain⟨c2,⟨a3,a0,a1,a5,a2,a4,a7,a6⟩⟩:=x2
  have d2:a8[(Int.toNat n)]? =some [.ii c2,.ii a3,.ii a0,.ii a1,.ii a5,.ii a2,.str a4,.str a7,.str a6]:=by
   exact map_at eItem c0 hx2
  have b8:=hx2
  rw[hn] at b8
  have b8:(xs)[i]? =some (⟨c2,⟨a3,a0,a1,a5,a2,a4,a7,a6⟩⟩:GItem):=b8
  refine ops_step rfl rfl (idx_sl rfl rfl rfl rfl rfl c9 rfl d2) ?_
  refine rz hA 3 ?_
  refine gs (gr (rn hA 3 ?_))
  obtain⟨b6,b9,hc4⟩:∃(b6:Bool),b6=(boxP (⟨a3,a0,a1,a5,a2,a4,a7,a6⟩:GRec))∧Real Tryz.prog 71 [.agg [.ii a3,.ii a0,.ii a1,.ii a5,.ii a2,.str a4,.str a7,.str a6]] (.tup [.ii a0,.bool b6]):=⟨_,rfl,by exact r_numBox A hA (⟨a3,a0,a1,a5,a2,a4,a7,a6⟩:GRec)⟩
  refine cvw hc4 (.inr rfl) ?_
  refine rz hA 5 ?_
  refine gx hA 1 ?_
  refine gc (fun c5=> ?_) (fun c5=> ?_)
  ·
   refine gr (rn hA 3 ?_)
   obtain⟨r6,hr6⟩:=nm (R++[[.ii a0]]:RR)
   have er6:r6=List.map eInt ((numL boxP GRec.Valid (xs.take i))++([(a0:Int)])):=by rw[hr6];exact app_eq hR (by rfl)
   have lr6:=rlen_map hA er6
   refine ops_step rfl rfl (app_own rfl rfl rfl rfl rfl rfl rfl rfl hr6 (by cbv) (by cbv) (by cbv) rfl (by
    show(List.length R+List.length ([[.ii a0]])) * _≤_
    have hnl:=num_len boxP GRec.Valid xs i
    show(List.length R+1) * 8≤_
    rw[hR,List.length_map];omega) (by decide) (by decide)) ?_
   refine rz hA 1 ?_
   refine gy hA 2 ?_
   refine⟨(Sr_numbers_box_1 a8 (A.rlen a8) (A.num .add .i64 n 1) r6),List.length xs - (i+1),?_,by cbv,i+1,(A.num .add .i64 n 1),r6,rfl,?_,rfl⟩
   ·
    omega
   refine⟨by rw[add_i64 hA (by omega) (by omega)];omega,by omega,?_⟩
   rw[num_at b8,if_pos (by rw[← b9,c5])]
   exact er6
  refine gk (gy hA 2 ?_)
  refine⟨(Sr_numbers_box_1 a8 (A.rlen a8) (A.num .add .i64 n 1) R),List.length xs - (i+1),?_,by cbv,i+1,(A.num .add .i64 n 1),R,rfl,?_,rfl⟩
  ·
   omega
  refine⟨by rw[add_i64 hA (by omega) (by omega)];omega,by omega,?_⟩
  rw[num_at b8,if_neg (by rw[← b9,c5];decide)]
  exact hR
 have ec1:(A.rlen a8)≤n:=lss_f hA c1
 refine go_exit ⟨fun _=> ?_,fun h=>absurd rfl h⟩
 refine gs ?_
 have hnl:=num_len boxP GRec.Valid xs i
 have d6:(sortI (numL boxP GRec.Valid (xs.take i))).length=(numL boxP GRec.Valid (xs.take i)).length:=sortI_len _
 refine gr (rn hA 1 ?_)
 obtain⟨so7,c4,c7⟩:∃ r:RR,r=List.map eInt (sortI (numL boxP GRec.Valid (xs.take i)))∧RealM Tryz.prog 101 [.ow 1 R] [.ow 1 r] (.tup []):=⟨_,rfl,by subst hR;exact r_Sort (numL boxP GRec.Valid (xs.take i)) (by omega)⟩
 have d7:=rlen_map hA c4
 refine ops_callM rfl (by cbv) (by cbv) (by cbv) c7 rfl (by cbv) ?_
 refine od ?_
 refine gs (gr (rn hA 1 ?_))
 obtain⟨z8,hz8,d0⟩:∃ r:RR,r=List.map eInt (Lib.compact (sortI (numL boxP GRec.Valid (xs.take i))))∧RealC Tryz.prog 102 [.ow 1 so7] (.ow 1 r):=⟨_,rfl,by subst c4;exact rCompact A hA (sortI (numL boxP GRec.Valid (xs.take i))) (by omega)⟩
 have lz8:=rlen_map hA hz8
 refine ops_callC rfl (by cbv) rfl (by cbv) (by cbv) d0 (by cbv) ?_
 refine rz hA 1 ?_
 refine rt (gt ?_)
 refine congrArg (PV.ow 1) ?_
 rw[hz8,List.take_of_length_le (by omega)]
 rfl
def Sr_numbers_uid_1 (p0:Int)(p1:RR)(p2:Int)(p3:Int)(p4:RR):St:={sl:=[.bad,.fn 109 [.rd [.ii p0]],.bad,.bad,.bad,.own 10,.bad,.bad,.bad,.bad,.bad,.sl 9 p1,.ii p2,.ii p3,.bad,.bad,.bad,.bad,.bad,.bad,.bad,.bad,.bad,.bad,.bad,.bad,.bad,.bad,.bad,.bad,.bad,.bad,.bad,.bad],bl:=[(10,⟨.arr,1,p4⟩)]}
theorem r_numbers_uid (A:Alg)(hA:A=std)(xs:List GItem)(v:Int)(hx:List.length xs≤1048576):Real Tryz.prog 70 [.sl 9 (List.map eItem xs),.fn 109 [.rd [.ii v]]] (.ow 1 (List.map eInt (numS (uidP v) GRec.Uid xs))):=by
 obtain⟨a8,c0⟩:=nm (xs.map eItem)
 have d5:=rlen_map hA c0
 refine real_args (args':=[.sl 9 a8,.fn 109 [.rd [.ii v]]]) (by subst c0;rfl) ?_
 refine real tyOk Tryz.func70 (by kernel_rfl) (afun_of rfl ?_)
 refine gx hA 1 ?_
 refine gx hA 2 ?_
 refine gs (gx hA 3 ?_)
 refine go_block ?_
 refine go_loopE (fun σ m=>∃(i:Nat) (n:Int) (R:RR),σ=(Sr_numbers_uid_1 v a8 (A.rlen a8) n R)∧(n=(i:Int)∧i≤List.length xs∧R=List.map eInt (numL (uidP v) GRec.Uid (xs.take i)))∧m=List.length xs - i) _ [] [1,5,11,12,13] [10] (Sr_numbers_uid_1 v a8 (A.rlen a8) 0 ([])) rfl (by cbv) ⟨0,0,[],rfl,?_,rfl⟩ (fun σ m hI=> ?_)
 ·
  exact⟨rfl,Nat.zero_le _,rfl⟩
 obtain⟨i,n,R,rfl,⟨hn,hi,hR⟩,rfl⟩:=hI
 refine gx hA 1 ?_
 refine gs ?_
 refine gc (fun c1=> ?_) (fun c1=> ?_)
 ·
  have ec1:n < (A.rlen a8):=lss_t hA c1
  refine gk (gs ?_)
  refine go_block ?_
  refine gs (gr ?_)
  have c9:(0:Int)≤n:=by
   omega
  have d1:(Int.toNat n) < List.length xs:=by
   omega
  obtain⟨x2,hx2⟩:∃ x,(xs)[(Int.toNat n)]? =some x:=⟨_,List.getElem?_eq_getElem d1⟩
  have d8:=List.mem_of_getElem? hx2
  obtain⟨c2,⟨a3,a0,a1,a5,a2,a4,a7,a6⟩⟩:=x2
  have d2:a8[(Int.toNat n)]? =some [.ii c2,.ii a3,.ii a0,.ii a1,.ii a5,.ii a2,.str a4,.str a7,.str a6]:=by
   exact map_at eItem c0 hx2
  have b8:=hx2
  rw[hn] at b8
  have b8:(xs)[i]? =some (⟨c2,⟨a3,a0,a1,a5,a2,a4,a7,a6⟩⟩:GItem):=b8
  refine ops_step rfl rfl (idx_sl rfl rfl rfl rfl rfl c9 rfl d2) ?_
  refine rz hA 3 ?_
  refine gs (gr (rn hA 3 ?_))
  obtain⟨b6,b9,hc4⟩:∃(b6:Bool),b6=(uidP v (⟨a3,a0,a1,a5,a2,a4,a7,a6⟩:GRec))∧Real Tryz.prog 109 [.agg [.ii a3,.ii a0,.ii a1,.ii a5,.ii a2,.str a4,.str a7,.str a6],.rd [.ii v]] (.tup [.ii a1,.bool b6]):=⟨_,rfl,by exact r_numUid A hA (⟨a3,a0,a1,a5,a2,a4,a7,a6⟩:GRec) v⟩
  refine cvw hc4 (.inr rfl) ?_
  refine rz hA 5 ?_
  refine gx hA 1 ?_
  refine gc (fun c5=> ?_) (fun c5=> ?_)
  ·
   refine gr (rn hA 3 ?_)
   obtain⟨r6,hr6⟩:=nm (R++[[.ii a1]]:RR)
   have er6:r6=List.map eInt ((numL (uidP v) GRec.Uid (xs.take i))++([(a1:Int)])):=by rw[hr6];exact app_eq hR (by rfl)
   have lr6:=rlen_map hA er6
   refine ops_step rfl rfl (app_own rfl rfl rfl rfl rfl rfl rfl rfl hr6 (by cbv) (by cbv) (by cbv) rfl (by
    show(List.length R+List.length ([[.ii a1]])) * _≤_
    have hnl:=num_len (uidP v) GRec.Uid xs i
    show(List.length R+1) * 8≤_
    rw[hR,List.length_map];omega) (by decide) (by decide)) ?_
   refine rz hA 1 ?_
   refine gy hA 2 ?_
   refine⟨(Sr_numbers_uid_1 v a8 (A.rlen a8) (A.num .add .i64 n 1) r6),List.length xs - (i+1),?_,by cbv,i+1,(A.num .add .i64 n 1),r6,rfl,?_,rfl⟩
   ·
    omega
   refine⟨by rw[add_i64 hA (by omega) (by omega)];omega,by omega,?_⟩
   rw[num_at b8,if_pos (by rw[← b9,c5])]
   exact er6
  refine gk (gy hA 2 ?_)
  refine⟨(Sr_numbers_uid_1 v a8 (A.rlen a8) (A.num .add .i64 n 1) R),List.length xs - (i+1),?_,by cbv,i+1,(A.num .add .i64 n 1),R,rfl,?_,rfl⟩
  ·
   omega
  refine⟨by rw[add_i64 hA (by omega) (by omega)];omega,by omega,?_⟩
  rw[num_at b8,if_neg (by rw[← b9,c5];decide)]
  exact hR
 have ec1:(A.rlen a8)≤n:=lss_f hA c1
 refine go_exit ⟨fun _=> ?_,fun h=>absurd rfl h⟩
 refine gs ?_
 have hnl:=num_len (uidP v) GRec.Uid xs i
 have d6:(sortI (numL (uidP v) GRec.Uid (xs.take i))).length=(numL (uidP v) GRec.Uid (xs.take i)).length:=sortI_len _
 refine gr (rn hA 1 ?_)
 obtain⟨so7,c4,c7⟩:∃ r:RR,r=List.map eInt (sortI (numL (uidP v) GRec.Uid (xs.take i)))∧RealM Tryz.prog 101 [.ow 1 R] [.ow 1 r] (.tup []):=⟨_,rfl,by subst hR;exact r_Sort (numL (uidP v) GRec.Uid (xs.take i)) (by omega)⟩
 have d7:=rlen_map hA c4
 refine ops_callM rfl (by cbv) (by cbv) (by cbv) c7 rfl (by cbv) ?_
 refine od ?_
 refine gs (gr (rn hA 1 ?_))
 obtain⟨z8,hz8,d0⟩:∃ r:RR,r=List.map eInt (Lib.compact (sortI (numL (uidP v) GRec.Uid (xs.take i))))∧RealC Tryz.prog 102 [.ow 1 so7] (.ow 1 r):=⟨_,rfl,by subst c4;exact rCompact A hA (sortI (numL (uidP v) GRec.Uid (xs.take i))) (by omega)⟩
 have lz8:=rlen_map hA hz8
 refine ops_callC rfl (by cbv) rfl (by cbv) (by cbv) d0 (by cbv) ?_
 refine rz hA 1 ?_
 refine rt (gt ?_)
 refine congrArg (PV.ow 1) ?_
 rw[hz8,List.take_of_length_le (by omega)]
 rfl
end Go.Av

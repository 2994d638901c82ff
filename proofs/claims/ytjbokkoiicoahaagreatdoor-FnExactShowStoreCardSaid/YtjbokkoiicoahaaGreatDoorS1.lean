/- Walks: ShowStore. -/
import Derived.Test.YtjbokkoiicoahaaGreatDoorG4
import Derived.Test.YtjbokkoiicoahaaGreatDoorLv
import Derived.Test.YtjbokkoiicoahaaGreatDoorP1
import Derived.Test.YtjbokkoiicoahaaGreatDoorP4
import Derived.Test.YtjbokkoiicoahaaGreatDoorP5
import Derived.Test.YtjbokkoiicoahaaGreatDoorN1
namespace Go.Av
open Go
set_option linter.unusedVariables false
set_option linter.unusedSimpArgs false
theorem nextS_ge :∀(us:List Int) (a:Int),a≤nextS a us
 | [],a=>Int.le_refl _
 | u::us,a=>by
  have h:=nextS_ge us (max a (u+1))
  show a≤nextS (max a (u+1)) us
  omega
theorem lat_getD (p:GRec→Bool)(lt:GItem→GItem→Bool)(xs:List GItem):(lat p lt xs).getD zItem=zItem∨(lat p lt xs).getD zItem∈xs:=by
 cases h:lat p lt xs with
 | none=>exact .inl rfl
 | some x=>exact .inr (lat_mem h).1
theorem mailAt_getD (v u:Int)(xs:List GItem):(mailAt v u xs).getD zItem=zItem∨(mailAt v u xs).getD zItem∈xs:=by
 cases h:mailAt v u xs with
 | none=>exact .inl rfl
 | some x=>exact .inr (mailAt_mem h)
theorem rec_small {r:GRec}(h:recOk r=true):(1≤r.Valid∧r.Valid≤9999)∧(0≤r.Next∧r.Next≤10000)∧(0≤r.Flags∧r.Flags≤10000):=by
 simp only[recOk,inR,Bool.and_eq_true,Bool.or_eq_true,decide_eq_true_eq] at h
 omega
theorem fl_rng {xs:List GItem}(hok:itemsOk xs=true){y:GItem}(h:y=zItem∨y∈xs):0≤y.Rec.Flags∧y.Rec.Flags≤10000:=by
 rcases h with rfl | h
 ·show(0:Int)≤0∧(0:Int)≤10000;omega
 exact(rec_small (items_rec hok h)).2.2
theorem rg_box {xs:List GItem}(hok:itemsOk xs=true){x:GItem}(hx:x∈xs):rgBox (boxS xs x):=by
 have hr:=rec_small (items_rec hok hx)
 refine⟨?_,?_,fun m hm=> ?_⟩
 ·show i64 x.Rec.Valid;unfold i64;omega
 ·show i64 (nextS x.Rec.Next (numS (uidP x.Rec.Valid) GRec.Uid xs))
  have h1:=nextS_ge (numS (uidP x.Rec.Valid) GRec.Uid xs) x.Rec.Next
  have h2:nextS x.Rec.Next (numS (uidP x.Rec.Valid) GRec.Uid xs)≤10000:=(max_le (fun u:Int=>u+1) _ _ _).2 ⟨by omega,fun u hu=>by have:=uid_rng hok hu;omega⟩
  unfold i64;omega
 obtain⟨u,hu,hm⟩:=List.mem_filterMap.1 hm
 have hur:=uid_rng hok hu
 unfold mailOf at hm
 split at hm
 ·simp only[Option.some.injEq] at hm
  subst hm
  refine⟨?_,?_⟩
  ·show i64 u;unfold i64;omega
  show i64 (mailX _ _ _ _).Flags
  unfold mailX
  show i64 (if _ then _ else _)
  split
  ·have:=fl_rng hok (lat_getD (mailIs 4 x.Rec.Valid u) bySeqB xs);unfold i64;omega
  have:=fl_rng hok (mailAt_getD x.Rec.Valid u xs);unfold i64;omega
 cases hm
theorem rg_state {xs:List GItem}(hz:∀ q∈zsItemS xs,q≤1048576):∀ b∈(stateS xs).Boxes,rgBox b∧∀ q∈zsBox b,q≤1048576:=by
 unfold stateS
 split
 ·rename_i hok
  intro b hb
  have hb:b∈boxesS xs:=hb
  refine⟨?_,fun q hq=>zs_boxes hok hz q (List.mem_cons_of_mem _ (List.mem_flatMap.2 ⟨b,hb,hq⟩))⟩
  obtain⟨v,_,hv⟩:=List.mem_filterMap.1 hb
  obtain⟨x,hx,rfl⟩:=box_some hv
  exact rg_box hok hx
 intro b hb;cases hb
theorem state_len (xs:List GItem):(stateS xs).Boxes.length≤200:=by
 unfold stateS
 split
 ·rename_i hok
  have h1:=items_len hok
  have h2:=boxes_len xs
  show(boxesS xs).length≤200
  omega
 exact Nat.zero_le _
def segW :ByteArray:=ByteArray.mk #[115,101,103,109,101,110,116,115,32]
def freeW :ByteArray:=ByteArray.mk #[32,102,114,101,101,32]
def liveW :ByteArray:=ByteArray.mk #[32,108,105,118,101,32]
def headS (a b c:Int):ByteArray:=(((((segW++itoaB a)++freeW)++itoaB b)++liveW)++itoaB c)++nlB
def catB (h:ByteArray)(bs:List GBox):ByteArray:=bs.foldl (fun s b=>s++boxT b) h
def storeT (x:GStore):ByteArray:=catB (headS (List.length x.Log.Used:Int) (List.length (freeL x.Log.Segs x.Log.Used):Int) (totL x.Freed x.Log.Used (List.length x.Log.Used))) (stateS (itemsL x.Log.Used)).Boxes
theorem catB_at {h:ByteArray}{bs:List GBox}{i:Nat}{b:GBox}(hx:bs[i]? =some b):catB h (bs.take (i+1))=catB h (bs.take i)++boxT b:=by
 rw[List.take_add_one,hx];simp[catB,List.foldl_append]
theorem boxT_size {b:GBox}(hr:rgBox b)(hz:∀ q∈zsBox b,q≤1048576):(boxT b).size≤120000000:=by
 have h1:b.User.size≤1048576:=hz _ (by simp[zsBox])
 have h2:b.Name.size≤1048576:=hz _ (by simp[zsBox])
 have h3:b.Mails.length≤1048576:=hz _ (by simp[zsBox,zsMailS])
 have h4:=headT_size h1 h2 hr.1 hr.2.1 (l:=(List.length b.Mails:Int)) (by unfold i64;omega)
 have h5:=catM_size (h:=ByteArray.empty) b.Mails (fun m hm=>⟨hr.2.2 m hm,hz _ (by
  simp only[zsBox,zsMailS,List.mem_append,List.mem_cons,List.mem_flatMap]
  exact .inr (.inr (.inl (.inr ⟨m,hm,by simp[zsMail]⟩))))⟩) (headT b.User b.Name b.Valid b.Next (List.length b.Mails:Int))
 unfold boxT;omega
theorem catB_size :∀(bs:List GBox),(∀ b∈bs,rgBox b∧∀ q∈zsBox b,q≤1048576)→∀ h:ByteArray,(catB h bs).size≤h.size+120000000 * bs.length
 | [],_,h=>by simp[catB]
 | b::bs,hb,h=>by
  have h1:=catB_size bs (fun x hx=>hb x (List.mem_cons_of_mem _ hx)) (h++boxT b)
  have h2:=boxT_size (hb b List.mem_cons_self).1 (hb b List.mem_cons_self).2
  rw[ByteArray.size_append] at h1
  show(catB (h++boxT b) bs).size≤_
  rw[List.length_cons];omega
theorem seg9 :segW.size=9:=rfl
theorem free6 :freeW.size=6:=rfl
theorem live6 :liveW.size=6:=rfl
theorem headS_size {a b c:Int}(ha:i64 a)(hb:i64 b)(hc:i64 c):(headS a b c).size≤200:=by
 have h1:=itoaB_size a ha
 have h2:=itoaB_size b hb
 have h3:=itoaB_size c hc
 unfold headS
 simp only[ByteArray.size_append,seg9,free6,live6,nl1]
 omega
end Go.Av
namespace Go.Av
open Go Go.Proofs
set_option maxRecDepth 100000
set_option maxHeartbeats 4000000
set_option linter.unusedVariables false
set_option linter.unusedSimpArgs false
def S7_1 (p0:ByteArray)(p1:RR)(p2:Int)(p3:Int):St:={sl:=[.bad,.bad,.bad,.str p0,.bad,.bad,.bad,.bad,.bad,.bad,.bad,.bad,.bad,.bad,.bad,.bad,.bad,.bad,.bad,.bad,.bad,.bad,.bad,.bad,.bad,.bad,.bad,.sl 5 p1,.ii p2,.ii p3,.bad,.bad,.bad,.bad,.bad,.bad,.bad,.bad,.bad],bl:=[]}
theorem r_impl_ShowStore (A:Alg)(hA:A=std)(x:GStore)(hz:∀ q∈zsStore x,q≤1048576)(hil:(itemsL x.Log.Used).length≤1048576):Real Tryz.prog 7 [.agg (eStore x)] (.str (storeT x)):=by
 obtain⟨⟨⟨a5,a7⟩,a6,a0,b0,b1,b5,a8⟩,b6⟩:=x
 obtain⟨b4,a9⟩:=nm (a5.map eString)
 have a1:=rlen_map hA a9
 obtain⟨b8,b2⟩:=nm (a7.map eWrite)
 have a2:=rlen_map hA b2
 obtain⟨b7,c0⟩:=nm (a0.map eSeg)
 have a3:=rlen_map hA c0
 obtain⟨e7,c9⟩:=nm (b6.map eInt)
 have a4:=rlen_map hA c9
 refine real_args (args':=[.agg [.sl 1 b4,.sl 2 b8,.ii a6,.sl 4 b7,.ii b0,.ii b1,.ii b5,.ii a8,.sl 1 e7]]) (by subst a9 b2 c0 c9;rfl) ?_
 have g0:∀ q∈zsLog (⟨⟨a5,a7⟩,a6,a0,b0,b1,b5,a8⟩:GLog),q≤1048576:=fun q hq=>hz q (by simp only[zsStore,List.mem_append];simp only[hq,true_or,or_true])
 have f0:∀ q∈zsDisk (⟨a5,a7⟩:GDisk),q≤1048576:=fun q hq=>g0 q (by simp only[zsLog,List.mem_append];simp only[hq,true_or,or_true])
 have e6:∀ q∈zsStringS a5,q≤1048576:=fun q hq=>f0 q (by simp only[zsDisk,List.mem_append];simp only[hq,true_or,or_true])
 have f9:List.length a5≤1048576:=e6 _ (by simp[zsStringS])
 have e9:∀ q∈zsWriteS a7,q≤1048576:=fun q hq=>f0 q (by simp only[zsDisk,List.mem_append];simp only[hq,true_or,or_true])
 have g2:List.length a7≤1048576:=e9 _ (by simp[zsWriteS])
 have f1:∀ q∈zsSegS a0,q≤1048576:=fun q hq=>g0 q (by simp only[zsLog,List.mem_append];simp only[hq,true_or,or_true])
 have i6:List.length a0≤1048576:=f1 _ (by simp[zsSegS])
 have g4:∀ q∈zsIntS b6,q≤1048576:=fun q hq=>hz q (by simp only[zsStore,List.mem_append];simp only[hq,true_or,or_true])
 have k0:List.length b6≤1048576:=g4 _ (by simp[zsIntS])
 have hil:(itemsL a0).length≤1048576:=hil
 have hzs:=zs_itemsL f1 hil
 have hzk:∀ q∈zsItemS (keptL b6 a0),q≤1048576:=zs_kept hzs
 have hki:=keptL_items b6 a0
 have hbx:=rg_state hzs
 have hbl:=state_len (itemsL a0)
 have htl:=totL_le b6 a0 (List.length a0)
 have htq:=itemsL_le a0 (List.length a0)
 have hfl:List.length (freeL a6 a0)≤11:=Nat.le_trans (freeN_len _ _) (by omega)
 have i1:i64 (List.length a0:Int):=by unfold i64;omega
 have i2:i64 (List.length (freeL a6 a0):Int):=by unfold i64;omega
 have i3:i64 (totL b6 a0 (List.length a0)):=by unfold i64;omega
 have s1:=itoaB_size _ i1
 have s2:=itoaB_size _ i2
 have s3:=itoaB_size _ i3
 have hhd:=headS_size i1 i2 i3
 refine real tyOk Tryz.func7 (by kernel_rfl) (afun_of rfl ?_)
 refine gx hA 2 ?_
 refine gs ?_
 refine go_draw [0,1,2,3,4,5,6,7,8,9,10,11,12,13,14,15,16,17,18,19] (by cbv) ?_
 refine dn_ hA 4 ?_
 obtain⟨c2,c7,hc2⟩:∃(c2:ByteArray),c2=(itoaB (A.rlen b7))∧Real Tryz.prog 18 [.ii (A.rlen b7)] (.str c2):=⟨_,rfl,by exact r_impl_Decimal A hA (A.rlen b7) (by unfold i64 at *;omega)⟩
 refine dops_callV rfl rfl (by cbv) (by cbv) hc2 (.inr rfl) ?_
 obtain⟨s3,hs3⟩:=nm ((ByteArray.mk #[115,101,103,109,101,110,116,115,32])++c2:ByteArray)
 have zs3:ByteArray.size s3=ByteArray.size (ByteArray.mk #[115,101,103,109,101,110,116,115,32])+ByteArray.size c2:=by rw[hs3];exact ByteArray.size_append
 have bs3:ByteArray.size (ByteArray.mk #[115,101,103,109,101,110,116,115,32])+ByteArray.size c2≤140737488355328:=by
  have d6:ByteArray.size c2≤30:=by rw[c7];(try simp only[a1,a2,a3,a4]);omega
  have e1:(ByteArray.mk #[115,101,103,109,101,110,116,115,32]).size=9:=rfl
  have e2:(ByteArray.mk #[32,102,114,101,101,32]).size=6:=rfl
  have e3:(ByteArray.mk #[32,108,105,118,101,32]).size=6:=rfl
  have e4:(ByteArray.mk #[10]).size=1:=rfl
  omega
 refine dops_step rfl rfl rfl (str_add rfl rfl rfl hs3 bs3) ?_
 obtain⟨s4,hs4⟩:=nm (s3++(ByteArray.mk #[32,102,114,101,101,32]):ByteArray)
 have zs4:ByteArray.size s4=ByteArray.size s3+ByteArray.size (ByteArray.mk #[32,102,114,101,101,32]):=by rw[hs4];exact ByteArray.size_append
 have bs4:ByteArray.size s3+ByteArray.size (ByteArray.mk #[32,102,114,101,101,32])≤140737488355328:=by
  have d6:ByteArray.size c2≤30:=by rw[c7];(try simp only[a1,a2,a3,a4]);omega
  have e1:(ByteArray.mk #[115,101,103,109,101,110,116,115,32]).size=9:=rfl
  have e2:(ByteArray.mk #[32,102,114,101,101,32]).size=6:=rfl
  have e3:(ByteArray.mk #[32,108,105,118,101,32]).size=6:=rfl
  have e4:(ByteArray.mk #[10]).size=1:=rfl
  omega
 refine dops_step rfl rfl rfl (str_add rfl rfl rfl hs4 bs4) ?_
 refine dn_ hA 2 ?_
 obtain⟨e0,g1,hc6⟩:∃(e0:RR),e0=List.map eInt (freeL a6 a0)∧Real Tryz.prog 19 [.agg [.sl 1 b4,.sl 2 b8,.ii a6,.sl 4 b7,.ii b0,.ii b1,.ii b5,.ii a8]] (.ow 1 e0):=⟨_,rfl,by subst a9 b2 c0;exact r_impl_FreeSegs A hA (⟨⟨a5,a7⟩,a6,a0,b0,b1,b5,a8⟩:GLog) (by assumption)⟩
 have b9:=rlen_map hA g1
 have b3:A.rlen (eraseR e0)=(List.length (freeL a6 a0):Int):=rlen_map hA (by rw[g1];exact erR_Int _)
 refine dops_callV rfl rfl (by cbv) (by cbv) hc6 (.inr rfl) ?_
 refine dn_ hA 1 ?_
 obtain⟨c4,d9,hc8⟩:∃(c4:ByteArray),c4=(itoaB (A.rlen (eraseR e0)))∧Real Tryz.prog 18 [.ii (A.rlen (eraseR e0))] (.str c4):=⟨_,rfl,by exact r_impl_Decimal A hA (A.rlen (eraseR e0)) (by unfold i64 at *;omega)⟩
 refine dops_callV rfl rfl (by cbv) (by cbv) hc8 (.inr rfl) ?_
 obtain⟨s9,hs9⟩:=nm (s4++c4:ByteArray)
 have zs9:ByteArray.size s9=ByteArray.size s4+ByteArray.size c4:=by rw[hs9];exact ByteArray.size_append
 have bs9:ByteArray.size s4+ByteArray.size c4≤140737488355328:=by
  have d6:ByteArray.size c2≤30:=by rw[c7];(try simp only[a1,a2,a3,a4,b9,b3]);omega
  have f3:ByteArray.size c4≤30:=by rw[d9];(try simp only[a1,a2,a3,a4,b9,b3]);omega
  have e1:(ByteArray.mk #[115,101,103,109,101,110,116,115,32]).size=9:=rfl
  have e2:(ByteArray.mk #[32,102,114,101,101,32]).size=6:=rfl
  have e3:(ByteArray.mk #[32,108,105,118,101,32]).size=6:=rfl
  have e4:(ByteArray.mk #[10]).size=1:=rfl
  omega
 refine dops_step rfl rfl rfl (str_add rfl rfl rfl hs9 bs9) ?_
 obtain⟨s10,g5⟩:=nm (s9++(ByteArray.mk #[32,108,105,118,101,32]):ByteArray)
 have k8:ByteArray.size s10=ByteArray.size s9+ByteArray.size (ByteArray.mk #[32,108,105,118,101,32]):=by rw[g5];exact ByteArray.size_append
 have j8:ByteArray.size s9+ByteArray.size (ByteArray.mk #[32,108,105,118,101,32])≤140737488355328:=by
  have d6:ByteArray.size c2≤30:=by rw[c7];(try simp only[a1,a2,a3,a4,b9,b3]);omega
  have f3:ByteArray.size c4≤30:=by rw[d9];(try simp only[a1,a2,a3,a4,b9,b3]);omega
  have e1:(ByteArray.mk #[115,101,103,109,101,110,116,115,32]).size=9:=rfl
  have e2:(ByteArray.mk #[32,102,114,101,101,32]).size=6:=rfl
  have e3:(ByteArray.mk #[32,108,105,118,101,32]).size=6:=rfl
  have e4:(ByteArray.mk #[10]).size=1:=rfl
  omega
 refine dops_step rfl rfl rfl (str_add rfl rfl rfl g5 j8) ?_
 refine dn_ hA 1 ?_
 obtain⟨d7,c1,j7⟩:∃(d7:Int),d7=(totL b6 a0 (List.length a0))∧Real Tryz.prog 20 [.agg [.sl 1 b4,.sl 2 b8,.ii a6,.sl 4 b7,.ii b0,.ii b1,.ii b5,.ii a8,.sl 1 e7]] (.ii d7):=⟨_,rfl,by subst a9 b2 c0 c9;exact r_impl_LiveBytes A hA (⟨⟨⟨a5,a7⟩,a6,a0,b0,b1,b5,a8⟩,b6⟩:GStore) (by assumption) hil⟩
 refine dops_callV rfl rfl (by cbv) (by cbv) j7 (.inr rfl) ?_
 obtain⟨c5,e8,j5⟩:∃(c5:ByteArray),c5=(itoaB d7)∧Real Tryz.prog 18 [.ii d7] (.str c5):=⟨_,rfl,by exact r_impl_Decimal A hA d7 (by unfold i64 at *;omega)⟩
 refine dops_callV rfl rfl (by cbv) (by cbv) j5 (.inr rfl) ?_
 obtain⟨s15,g3⟩:=nm (s10++c5:ByteArray)
 have k7:ByteArray.size s15=ByteArray.size s10+ByteArray.size c5:=by rw[g3];exact ByteArray.size_append
 have j9:ByteArray.size s10+ByteArray.size c5≤140737488355328:=by
  have d6:ByteArray.size c2≤30:=by rw[c7];(try simp only[a1,a2,a3,a4,b9,b3,c1]);omega
  have f3:ByteArray.size c4≤30:=by rw[d9];(try simp only[a1,a2,a3,a4,b9,b3,c1]);omega
  have f8:ByteArray.size c5≤30:=by rw[e8];(try simp only[a1,a2,a3,a4,b9,b3,c1]);omega
  have e1:(ByteArray.mk #[115,101,103,109,101,110,116,115,32]).size=9:=rfl
  have e2:(ByteArray.mk #[32,102,114,101,101,32]).size=6:=rfl
  have e3:(ByteArray.mk #[32,108,105,118,101,32]).size=6:=rfl
  have e4:(ByteArray.mk #[10]).size=1:=rfl
  omega
 refine dops_step rfl rfl rfl (str_add rfl rfl rfl g3 j9) ?_
 obtain⟨s16,g6⟩:=nm (s15++(ByteArray.mk #[10]):ByteArray)
 have k5:ByteArray.size s16=ByteArray.size s15+ByteArray.size (ByteArray.mk #[10]):=by rw[g6];exact ByteArray.size_append
 have k1:ByteArray.size s15+ByteArray.size (ByteArray.mk #[10])≤140737488355328:=by
  have d6:ByteArray.size c2≤30:=by rw[c7];(try simp only[a1,a2,a3,a4,b9,b3,c1]);omega
  have f3:ByteArray.size c4≤30:=by rw[d9];(try simp only[a1,a2,a3,a4,b9,b3,c1]);omega
  have f8:ByteArray.size c5≤30:=by rw[e8];(try simp only[a1,a2,a3,a4,b9,b3,c1]);omega
  have e1:(ByteArray.mk #[115,101,103,109,101,110,116,115,32]).size=9:=rfl
  have e2:(ByteArray.mk #[32,102,114,101,101,32]).size=6:=rfl
  have e3:(ByteArray.mk #[32,108,105,118,101,32]).size=6:=rfl
  have e4:(ByteArray.mk #[10]).size=1:=rfl
  omega
 refine dops_step rfl rfl rfl (str_add rfl rfl rfl g6 k1) ?_
 refine dz hA 1 ?_
 refine gs (gs (gr (rn hA 1 ?_)))
 obtain⟨c6,e5,j4⟩:∃(c6:RR),c6=List.map eoBox ((stateS (itemsL a0)).Boxes)∧Real Tryz.prog 21 [.agg [.sl 1 b4,.sl 2 b8,.ii a6,.sl 4 b7,.ii b0,.ii b1,.ii b5,.ii a8,.sl 1 e7]] (.agg [.ow 5 c6]):=⟨_,rfl,by subst a9 b2 c0 c9;exact r_impl_StateNow A hA (⟨⟨⟨a5,a7⟩,a6,a0,b0,b1,b5,a8⟩,b6⟩:GStore) (by assumption) hil⟩
 have c3:=rlen_map hA e5
 obtain⟨d8,i0⟩:=nm (eraseR c6:RR)
 have g9:d8=List.map eBox ((stateS (itemsL a0)).Boxes):=by rw[i0,e5];exact erR_Box _
 have f4:=rlen_map hA g9
 refine ops_callVFn (r':=.agg [.sl 5 d8]) rfl rfl (by cbv) (by cbv) j4 (.inr rfl) (by subst i0;rfl) ?_
 refine ops_ext rfl (ext_field rfl rfl rfl rfl rfl rfl) ?_
 refine rz hA 2 ?_
 refine go_block ?_
 refine go_loopE (fun σ m=>∃(i:Nat) (n:Int) (S:ByteArray),σ=(S7_1 S d8 (A.rlen d8) n)∧(n=(i:Int)∧i≤List.length (stateS (itemsL a0)).Boxes∧S=catB (headS (List.length a0:Int) (List.length (freeL a6 a0):Int) (totL b6 a0 (List.length a0))) (List.take i (stateS (itemsL a0)).Boxes))∧m=List.length (stateS (itemsL a0)).Boxes - i) _ [.up 1] [3,27,28,29] [] (S7_1 s16 d8 (A.rlen d8) 0) rfl (by cbv) ⟨0,0,s16,rfl,?_,rfl⟩ (fun σ m hI=> ?_)
 ·
  refine⟨rfl,Nat.zero_le _,?_⟩
  show _=headS (List.length a0:Int) (List.length (freeL a6 a0):Int) (totL b6 a0 (List.length a0))
  simp only[g6,g3,g5,hs9,hs4,hs3,c7,d9,c1,e8,a1,a2,a3,a4,b9,b3,c3,f4]
  rfl
 obtain⟨i,n,S,rfl,⟨hn,hi,hS⟩,rfl⟩:=hI
 have hSz:ByteArray.size S≤30000000000:=by
  have:=catB_size (List.take i (stateS (itemsL a0)).Boxes) (fun b hb=>hbx b (List.mem_of_mem_take hb)) (headS (List.length a0:Int) (List.length (freeL a6 a0):Int) (totL b6 a0 (List.length a0)))
  rw[← hS,List.length_take] at this
  omega
 refine gx hA 1 ?_
 refine gs ?_
 refine gc (fun c20=> ?_) (fun c20=> ?_)
 ·
  have k2:n < (A.rlen d8):=lss_t hA c20
  refine gk (gs ?_)
  refine go_block ?_
  refine gs (gr ?_)
  have j1:(0:Int)≤n:=by
   omega
  have i9:(Int.toNat n) < List.length ((stateS (itemsL a0)).Boxes):=by
   omega
  obtain⟨x21,g8⟩:∃ x,((stateS (itemsL a0)).Boxes)[(Int.toNat n)]? =some x:=⟨_,List.getElem?_eq_getElem i9⟩
  have j3:=List.mem_of_getElem? g8
  obtain⟨c8,d3,d2,d1,d5⟩:=x21
  obtain⟨f2,d4⟩:=nm (d5.map eMail)
  have d0:=rlen_map hA d4
  have j2:d8[(Int.toNat n)]? =some [.ii c8,.str d3,.str d2,.ii d1,.sl 3 f2]:=by
   subst d4;exact map_at eBox g9 g8
  have f5:=g8
  rw[hn] at f5
  have f5:((stateS (itemsL a0)).Boxes)[i]? =some (⟨c8,d3,d2,d1,d5⟩:GBox):=f5
  have j0:=hbx _ j3
  obtain⟨i5,i4⟩:=j0
  have k4:=boxT_size i5 i4
  refine ops_step rfl rfl (idx_sl rfl rfl rfl rfl rfl j1 rfl j2) ?_
  refine rz hA 3 ?_
  refine gr (rn hA 2 ?_)
  obtain⟨f6,i7,k3⟩:∃(f6:ByteArray),f6=(boxT (⟨c8,d3,d2,d1,d5⟩:GBox))∧Real Tryz.prog 22 [.agg [.ii c8,.str d3,.str d2,.ii d1,.sl 3 f2]] (.str f6):=⟨_,rfl,by subst d4;exact r_impl_ShowBox A hA (⟨c8,d3,d2,d1,d5⟩:GBox) (by assumption) (by assumption)⟩
  refine cvw k3 (.inr rfl) ?_
  obtain⟨s24,g7⟩:=nm (S++f6:ByteArray)
  have k6:ByteArray.size s24=ByteArray.size S+ByteArray.size f6:=by rw[g7];exact ByteArray.size_append
  have j6:ByteArray.size S+ByteArray.size f6≤140737488355328:=by
   have d6:ByteArray.size c2≤30:=by rw[c7];(try simp only[a1,a2,a3,a4,b9,b3,c3,f4,d0,c1]);omega
   have f3:ByteArray.size c4≤30:=by rw[d9];(try simp only[a1,a2,a3,a4,b9,b3,c3,f4,d0,c1]);omega
   have f8:ByteArray.size c5≤30:=by rw[e8];(try simp only[a1,a2,a3,a4,b9,b3,c3,f4,d0,c1]);omega
   have l0:ByteArray.size f6≤120000000:=by rw[i7];assumption
   have e1:(ByteArray.mk #[115,101,103,109,101,110,116,115,32]).size=9:=rfl
   have e2:(ByteArray.mk #[32,102,114,101,101,32]).size=6:=rfl
   have e3:(ByteArray.mk #[32,108,105,118,101,32]).size=6:=rfl
   have e4:(ByteArray.mk #[10]).size=1:=rfl
   omega
  refine ops_step rfl rfl (str_add rfl rfl rfl g7 j6) ?_
  refine rz hA 1 ?_
  refine gy hA 2 ?_
  refine⟨(S7_1 s24 d8 (A.rlen d8) (A.num .add .i64 n 1)),List.length (stateS (itemsL a0)).Boxes - (i+1),?_,by cbv,i+1,(A.num .add .i64 n 1),s24,rfl,?_,rfl⟩
  ·
   omega
  refine⟨by rw[add_i64 hA (by omega) (by omega)];omega,by omega,?_⟩
  rw[catB_at f5,← hS,g7,i7]
 have k2:(A.rlen d8)≤n:=lss_f hA c20
 refine go_exit ⟨fun _=> ?_,fun h=>absurd rfl h⟩
 refine gx hA 2 ?_
 refine rt (gt ?_)
 refine congrArg PV.str ?_
 rw[hS,List.take_of_length_le (show List.length (stateS (itemsL a0)).Boxes≤i by omega)]
 rfl
def S5_1 (p0:ByteArray)(p1:Int)(p2:RR):St:={sl:=[.bad,.bad,.bad,.str p0,.pt 4 0 0,.ii p1,.bad,.bad,.bad,.bad,.bad,.bad,.bad,.bad,.bad,.bad,.bad,.bad,.bad,.bad,.bad,.bad,.bad,.bad,.bad,.bad,.bad,.bad,.bad,.bad,.bad,.bad,.bad,.bad,.bad,.bad,.bad,.bad,.bad,.bad,.bad,.bad,.bad],bl:=[(4,⟨.var,1,[[.sl 5 p2]]⟩)]}
theorem r_spec_ShowStore (A:Alg)(hA:A=std)(x:GStore)(hz:∀ q∈zsStore x,q≤1048576)(hil:(itemsL x.Log.Used).length≤1048576):Real Tryz.prog 5 [.agg (eStore x)] (.str (storeT x)):=by
 obtain⟨⟨⟨a5,a7⟩,a6,a0,b0,b1,b5,a8⟩,b6⟩:=x
 obtain⟨b4,a9⟩:=nm (a5.map eString)
 have a1:=rlen_map hA a9
 obtain⟨b8,b2⟩:=nm (a7.map eWrite)
 have a2:=rlen_map hA b2
 obtain⟨b7,c0⟩:=nm (a0.map eSeg)
 have a3:=rlen_map hA c0
 obtain⟨e7,c9⟩:=nm (b6.map eInt)
 have a4:=rlen_map hA c9
 refine real_args (args':=[.agg [.sl 1 b4,.sl 2 b8,.ii a6,.sl 4 b7,.ii b0,.ii b1,.ii b5,.ii a8,.sl 1 e7]]) (by subst a9 b2 c0 c9;rfl) ?_
 have g0:∀ q∈zsLog (⟨⟨a5,a7⟩,a6,a0,b0,b1,b5,a8⟩:GLog),q≤1048576:=fun q hq=>hz q (by simp only[zsStore,List.mem_append];simp only[hq,true_or,or_true])
 have f0:∀ q∈zsDisk (⟨a5,a7⟩:GDisk),q≤1048576:=fun q hq=>g0 q (by simp only[zsLog,List.mem_append];simp only[hq,true_or,or_true])
 have e6:∀ q∈zsStringS a5,q≤1048576:=fun q hq=>f0 q (by simp only[zsDisk,List.mem_append];simp only[hq,true_or,or_true])
 have f9:List.length a5≤1048576:=e6 _ (by simp[zsStringS])
 have e9:∀ q∈zsWriteS a7,q≤1048576:=fun q hq=>f0 q (by simp only[zsDisk,List.mem_append];simp only[hq,true_or,or_true])
 have g2:List.length a7≤1048576:=e9 _ (by simp[zsWriteS])
 have f1:∀ q∈zsSegS a0,q≤1048576:=fun q hq=>g0 q (by simp only[zsLog,List.mem_append];simp only[hq,true_or,or_true])
 have i6:List.length a0≤1048576:=f1 _ (by simp[zsSegS])
 have g4:∀ q∈zsIntS b6,q≤1048576:=fun q hq=>hz q (by simp only[zsStore,List.mem_append];simp only[hq,true_or,or_true])
 have k0:List.length b6≤1048576:=g4 _ (by simp[zsIntS])
 have hil:(itemsL a0).length≤1048576:=hil
 have hzs:=zs_itemsL f1 hil
 have hzk:∀ q∈zsItemS (keptL b6 a0),q≤1048576:=zs_kept hzs
 have hki:=keptL_items b6 a0
 have hbx:=rg_state hzs
 have hbl:=state_len (itemsL a0)
 have htl:=totL_le b6 a0 (List.length a0)
 have htq:=itemsL_le a0 (List.length a0)
 have hfl:List.length (freeL a6 a0)≤11:=Nat.le_trans (freeN_len _ _) (by omega)
 have i1:i64 (List.length a0:Int):=by unfold i64;omega
 have i2:i64 (List.length (freeL a6 a0):Int):=by unfold i64;omega
 have i3:i64 (totL b6 a0 (List.length a0)):=by unfold i64;omega
 have s1:=itoaB_size _ i1
 have s2:=itoaB_size _ i2
 have s3:=itoaB_size _ i3
 have hhd:=headS_size i1 i2 i3
 refine real tyOk Tryz.func5 (by kernel_rfl) (afun_of rfl ?_)
 refine gx hA 2 ?_
 refine gs ?_
 refine go_draw [0,1,2,3,4,5,6,7,8,9,10,11,12,13,14,15,16,17,18,19] (by cbv) ?_
 refine dn_ hA 4 ?_
 obtain⟨c2,c7,hc2⟩:∃(c2:ByteArray),c2=(itoaB (A.rlen b7))∧Real Tryz.prog 11 [.ii (A.rlen b7)] (.str c2):=⟨_,rfl,by exact r_spec_Decimal A hA (A.rlen b7) (by unfold i64 at *;omega)⟩
 refine dops_callV rfl rfl (by cbv) (by cbv) hc2 (.inr rfl) ?_
 obtain⟨s3,hs3⟩:=nm ((ByteArray.mk #[115,101,103,109,101,110,116,115,32])++c2:ByteArray)
 have zs3:ByteArray.size s3=ByteArray.size (ByteArray.mk #[115,101,103,109,101,110,116,115,32])+ByteArray.size c2:=by rw[hs3];exact ByteArray.size_append
 have bs3:ByteArray.size (ByteArray.mk #[115,101,103,109,101,110,116,115,32])+ByteArray.size c2≤140737488355328:=by
  have d6:ByteArray.size c2≤30:=by rw[c7];(try simp only[a1,a2,a3,a4]);omega
  have e1:(ByteArray.mk #[115,101,103,109,101,110,116,115,32]).size=9:=rfl
  have e2:(ByteArray.mk #[32,102,114,101,101,32]).size=6:=rfl
  have e3:(ByteArray.mk #[32,108,105,118,101,32]).size=6:=rfl
  have e4:(ByteArray.mk #[10]).size=1:=rfl
  omega
 refine dops_step rfl rfl rfl (str_add rfl rfl rfl hs3 bs3) ?_
 obtain⟨s4,hs4⟩:=nm (s3++(ByteArray.mk #[32,102,114,101,101,32]):ByteArray)
 have zs4:ByteArray.size s4=ByteArray.size s3+ByteArray.size (ByteArray.mk #[32,102,114,101,101,32]):=by rw[hs4];exact ByteArray.size_append
 have bs4:ByteArray.size s3+ByteArray.size (ByteArray.mk #[32,102,114,101,101,32])≤140737488355328:=by
  have d6:ByteArray.size c2≤30:=by rw[c7];(try simp only[a1,a2,a3,a4]);omega
  have e1:(ByteArray.mk #[115,101,103,109,101,110,116,115,32]).size=9:=rfl
  have e2:(ByteArray.mk #[32,102,114,101,101,32]).size=6:=rfl
  have e3:(ByteArray.mk #[32,108,105,118,101,32]).size=6:=rfl
  have e4:(ByteArray.mk #[10]).size=1:=rfl
  omega
 refine dops_step rfl rfl rfl (str_add rfl rfl rfl hs4 bs4) ?_
 refine dn_ hA 2 ?_
 obtain⟨e0,g1,hc6⟩:∃(e0:RR),e0=List.map eInt (freeL a6 a0)∧Real Tryz.prog 12 [.agg [.sl 1 b4,.sl 2 b8,.ii a6,.sl 4 b7,.ii b0,.ii b1,.ii b5,.ii a8]] (.ow 1 e0):=⟨_,rfl,by subst a9 b2 c0;exact r_spec_FreeSegs A hA (⟨⟨a5,a7⟩,a6,a0,b0,b1,b5,a8⟩:GLog) (by assumption)⟩
 have b9:=rlen_map hA g1
 have b3:A.rlen (eraseR e0)=(List.length (freeL a6 a0):Int):=rlen_map hA (by rw[g1];exact erR_Int _)
 refine dops_callV rfl rfl (by cbv) (by cbv) hc6 (.inr rfl) ?_
 refine dn_ hA 1 ?_
 obtain⟨c4,d9,hc8⟩:∃(c4:ByteArray),c4=(itoaB (A.rlen (eraseR e0)))∧Real Tryz.prog 11 [.ii (A.rlen (eraseR e0))] (.str c4):=⟨_,rfl,by exact r_spec_Decimal A hA (A.rlen (eraseR e0)) (by unfold i64 at *;omega)⟩
 refine dops_callV rfl rfl (by cbv) (by cbv) hc8 (.inr rfl) ?_
 obtain⟨s9,hs9⟩:=nm (s4++c4:ByteArray)
 have zs9:ByteArray.size s9=ByteArray.size s4+ByteArray.size c4:=by rw[hs9];exact ByteArray.size_append
 have bs9:ByteArray.size s4+ByteArray.size c4≤140737488355328:=by
  have d6:ByteArray.size c2≤30:=by rw[c7];(try simp only[a1,a2,a3,a4,b9,b3]);omega
  have f3:ByteArray.size c4≤30:=by rw[d9];(try simp only[a1,a2,a3,a4,b9,b3]);omega
  have e1:(ByteArray.mk #[115,101,103,109,101,110,116,115,32]).size=9:=rfl
  have e2:(ByteArray.mk #[32,102,114,101,101,32]).size=6:=rfl
  have e3:(ByteArray.mk #[32,108,105,118,101,32]).size=6:=rfl
  have e4:(ByteArray.mk #[10]).size=1:=rfl
  omega
 refine dops_step rfl rfl rfl (str_add rfl rfl rfl hs9 bs9) ?_
 obtain⟨s10,g5⟩:=nm (s9++(ByteArray.mk #[32,108,105,118,101,32]):ByteArray)
 have k8:ByteArray.size s10=ByteArray.size s9+ByteArray.size (ByteArray.mk #[32,108,105,118,101,32]):=by rw[g5];exact ByteArray.size_append
 have j8:ByteArray.size s9+ByteArray.size (ByteArray.mk #[32,108,105,118,101,32])≤140737488355328:=by
  have d6:ByteArray.size c2≤30:=by rw[c7];(try simp only[a1,a2,a3,a4,b9,b3]);omega
  have f3:ByteArray.size c4≤30:=by rw[d9];(try simp only[a1,a2,a3,a4,b9,b3]);omega
  have e1:(ByteArray.mk #[115,101,103,109,101,110,116,115,32]).size=9:=rfl
  have e2:(ByteArray.mk #[32,102,114,101,101,32]).size=6:=rfl
  have e3:(ByteArray.mk #[32,108,105,118,101,32]).size=6:=rfl
  have e4:(ByteArray.mk #[10]).size=1:=rfl
  omega
 refine dops_step rfl rfl rfl (str_add rfl rfl rfl g5 j8) ?_
 refine dn_ hA 1 ?_
 obtain⟨d7,c1,j7⟩:∃(d7:Int),d7=(totL b6 a0 (List.length a0))∧Real Tryz.prog 13 [.agg [.sl 1 b4,.sl 2 b8,.ii a6,.sl 4 b7,.ii b0,.ii b1,.ii b5,.ii a8,.sl 1 e7]] (.ii d7):=⟨_,rfl,by subst a9 b2 c0 c9;exact r_spec_LiveBytes A hA (⟨⟨⟨a5,a7⟩,a6,a0,b0,b1,b5,a8⟩,b6⟩:GStore) (by assumption) hil⟩
 refine dops_callV rfl rfl (by cbv) (by cbv) j7 (.inr rfl) ?_
 obtain⟨c5,e8,j5⟩:∃(c5:ByteArray),c5=(itoaB d7)∧Real Tryz.prog 11 [.ii d7] (.str c5):=⟨_,rfl,by exact r_spec_Decimal A hA d7 (by unfold i64 at *;omega)⟩
 refine dops_callV rfl rfl (by cbv) (by cbv) j5 (.inr rfl) ?_
 obtain⟨s15,g3⟩:=nm (s10++c5:ByteArray)
 have k7:ByteArray.size s15=ByteArray.size s10+ByteArray.size c5:=by rw[g3];exact ByteArray.size_append
 have j9:ByteArray.size s10+ByteArray.size c5≤140737488355328:=by
  have d6:ByteArray.size c2≤30:=by rw[c7];(try simp only[a1,a2,a3,a4,b9,b3,c1]);omega
  have f3:ByteArray.size c4≤30:=by rw[d9];(try simp only[a1,a2,a3,a4,b9,b3,c1]);omega
  have f8:ByteArray.size c5≤30:=by rw[e8];(try simp only[a1,a2,a3,a4,b9,b3,c1]);omega
  have e1:(ByteArray.mk #[115,101,103,109,101,110,116,115,32]).size=9:=rfl
  have e2:(ByteArray.mk #[32,102,114,101,101,32]).size=6:=rfl
  have e3:(ByteArray.mk #[32,108,105,118,101,32]).size=6:=rfl
  have e4:(ByteArray.mk #[10]).size=1:=rfl
  omega
 refine dops_step rfl rfl rfl (str_add rfl rfl rfl g3 j9) ?_
 obtain⟨s16,g6⟩:=nm (s15++(ByteArray.mk #[10]):ByteArray)
 have k5:ByteArray.size s16=ByteArray.size s15+ByteArray.size (ByteArray.mk #[10]):=by rw[g6];exact ByteArray.size_append
 have k1:ByteArray.size s15+ByteArray.size (ByteArray.mk #[10])≤140737488355328:=by
  have d6:ByteArray.size c2≤30:=by rw[c7];(try simp only[a1,a2,a3,a4,b9,b3,c1]);omega
  have f3:ByteArray.size c4≤30:=by rw[d9];(try simp only[a1,a2,a3,a4,b9,b3,c1]);omega
  have f8:ByteArray.size c5≤30:=by rw[e8];(try simp only[a1,a2,a3,a4,b9,b3,c1]);omega
  have e1:(ByteArray.mk #[115,101,103,109,101,110,116,115,32]).size=9:=rfl
  have e2:(ByteArray.mk #[32,102,114,101,101,32]).size=6:=rfl
  have e3:(ByteArray.mk #[32,108,105,118,101,32]).size=6:=rfl
  have e4:(ByteArray.mk #[10]).size=1:=rfl
  omega
 refine dops_step rfl rfl rfl (str_add rfl rfl rfl g6 k1) ?_
 refine dz hA 1 ?_
 refine gs (gr (rn hA 1 ?_))
 obtain⟨c6,e5,j4⟩:∃(c6:RR),c6=List.map eoBox ((stateS (itemsL a0)).Boxes)∧Real Tryz.prog 14 [.agg [.sl 1 b4,.sl 2 b8,.ii a6,.sl 4 b7,.ii b0,.ii b1,.ii b5,.ii a8,.sl 1 e7]] (.agg [.ow 5 c6]):=⟨_,rfl,by subst a9 b2 c0 c9;exact r_spec_StateNow A hA (⟨⟨⟨a5,a7⟩,a6,a0,b0,b1,b5,a8⟩,b6⟩:GStore) (by assumption) hil⟩
 have c3:=rlen_map hA e5
 obtain⟨d8,i0⟩:=nm (eraseR c6:RR)
 have g9:d8=List.map eBox ((stateS (itemsL a0)).Boxes):=by rw[i0,e5];exact erR_Box _
 have f4:=rlen_map hA g9
 refine ops_callVFn (r':=.agg [.sl 5 d8]) rfl rfl (by cbv) (by cbv) j4 (.inr rfl) (by subst i0;rfl) ?_
 refine rz hA 2 ?_
 refine gs (gx hA 1 ?_)
 refine go_block ?_
 refine go_loopE (fun σ m=>∃(i:Nat) (n:Int) (S:ByteArray),σ=(S5_1 S n d8)∧(n=(i:Int)∧i≤List.length (stateS (itemsL a0)).Boxes∧S=catB (headS (List.length a0:Int) (List.length (freeL a6 a0):Int) (totL b6 a0 (List.length a0))) (List.take i (stateS (itemsL a0)).Boxes))∧m=List.length (stateS (itemsL a0)).Boxes - i) _ [.up 4,.up 1] [3,4,5] [4] (S5_1 s16 0 d8) rfl (by cbv) ⟨0,0,s16,rfl,?_,rfl⟩ (fun σ m hI=> ?_)
 ·
  refine⟨rfl,Nat.zero_le _,?_⟩
  show _=headS (List.length a0:Int) (List.length (freeL a6 a0):Int) (totL b6 a0 (List.length a0))
  simp only[g6,g3,g5,hs9,hs4,hs3,c7,d9,c1,e8,a1,a2,a3,a4,b9,b3,c3,f4]
  rfl
 obtain⟨i,n,S,rfl,⟨hn,hi,hS⟩,rfl⟩:=hI
 have hSz:ByteArray.size S≤30000000000:=by
  have:=catB_size (List.take i (stateS (itemsL a0)).Boxes) (fun b hb=>hbx b (List.mem_of_mem_take hb)) (headS (List.length a0:Int) (List.length (freeL a6 a0):Int) (totL b6 a0 (List.length a0)))
  rw[← hS,List.length_take] at this
  omega
 refine gs (gx hA 5 ?_)
 refine gc (fun c20=> ?_) (fun c20=> ?_)
 ·
  have k2:n < (A.rlen d8):=lss_t hA c20
  refine gk (gs ?_)
  refine go_block ?_
  refine gr (rn hA 4 ?_)
  have j1:(0:Int)≤n:=by
   omega
  have i9:(Int.toNat n) < List.length ((stateS (itemsL a0)).Boxes):=by
   omega
  obtain⟨x21,g8⟩:∃ x,((stateS (itemsL a0)).Boxes)[(Int.toNat n)]? =some x:=⟨_,List.getElem?_eq_getElem i9⟩
  have j3:=List.mem_of_getElem? g8
  obtain⟨c8,d3,d2,d1,d5⟩:=x21
  obtain⟨f2,d4⟩:=nm (d5.map eMail)
  have d0:=rlen_map hA d4
  have j2:d8[(Int.toNat n)]? =some [.ii c8,.str d3,.str d2,.ii d1,.sl 3 f2]:=by
   subst d4;exact map_at eBox g9 g8
  have f5:=g8
  rw[hn] at f5
  have f5:((stateS (itemsL a0)).Boxes)[i]? =some (⟨c8,d3,d2,d1,d5⟩:GBox):=f5
  have j0:=hbx _ j3
  obtain⟨i5,i4⟩:=j0
  have k4:=boxT_size i5 i4
  refine ops_step rfl rfl (idx_sl rfl rfl rfl rfl rfl j1 rfl j2) ?_
  refine rn hA 1 ?_
  obtain⟨f7,i8,k3⟩:∃(f7:ByteArray),f7=(boxT (⟨c8,d3,d2,d1,d5⟩:GBox))∧Real Tryz.prog 15 [.agg [.ii c8,.str d3,.str d2,.ii d1,.sl 3 f2]] (.str f7):=⟨_,rfl,by subst d4;exact r_spec_ShowBox A hA (⟨c8,d3,d2,d1,d5⟩:GBox) (by assumption) (by assumption)⟩
  refine cvw k3 (.inr rfl) ?_
  obtain⟨s24,g7⟩:=nm (S++f7:ByteArray)
  have k6:ByteArray.size s24=ByteArray.size S+ByteArray.size f7:=by rw[g7];exact ByteArray.size_append
  have j6:ByteArray.size S+ByteArray.size f7≤140737488355328:=by
   have d6:ByteArray.size c2≤30:=by rw[c7];(try simp only[a1,a2,a3,a4,b9,b3,c3,f4,d0,c1]);omega
   have f3:ByteArray.size c4≤30:=by rw[d9];(try simp only[a1,a2,a3,a4,b9,b3,c3,f4,d0,c1]);omega
   have f8:ByteArray.size c5≤30:=by rw[e8];(try simp only[a1,a2,a3,a4,b9,b3,c3,f4,d0,c1]);omega
   have k9:ByteArray.size f7≤120000000:=by rw[i8];assumption
   have e1:(ByteArray.mk #[115,101,103,109,101,110,116,115,32]).size=9:=rfl
   have e2:(ByteArray.mk #[32,102,114,101,101,32]).size=6:=rfl
   have e3:(ByteArray.mk #[32,108,105,118,101,32]).size=6:=rfl
   have e4:(ByteArray.mk #[10]).size=1:=rfl
   omega
  refine ops_step rfl rfl (str_add rfl rfl rfl g7 j6) ?_
  refine rz hA 1 ?_
  refine gy hA 3 ?_
  refine⟨(S5_1 s24 (A.num .add .i64 n 1) d8),List.length (stateS (itemsL a0)).Boxes - (i+1),?_,by cbv,i+1,(A.num .add .i64 n 1),s24,rfl,?_,rfl⟩
  ·
   omega
  refine⟨by rw[add_i64 hA (by omega) (by omega)];omega,by omega,?_⟩
  rw[catB_at f5,← hS,g7,i8]
 have k2:(A.rlen d8)≤n:=lss_f hA c20
 refine go_exit ⟨fun _=> ?_,fun h=>absurd rfl h⟩
 refine gx hA 2 ?_
 refine rt (gt ?_)
 refine congrArg PV.str ?_
 rw[hS,List.take_of_length_le (show List.length (stateS (itemsL a0)).Boxes≤i by omega)]
 rfl
end Go.Av

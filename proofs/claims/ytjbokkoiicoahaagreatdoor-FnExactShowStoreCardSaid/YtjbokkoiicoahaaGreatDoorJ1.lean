/- Walks: records of a kind. -/
import Derived.Test.YtjbokkoiicoahaaGreatDoorTy
import Derived.Lib.SlicesCompact
namespace Go.Av
open Go Go.Proofs
set_option maxRecDepth 100000
set_option maxHeartbeats 4000000
set_option linter.unusedVariables false
set_option linter.unusedSimpArgs false
def inR (n lo hi:Int):Bool:=decide (lo≤n) && decide (n≤hi)
def wdFrom (s:ByteArray):Nat→Nat→Bool
 | _,0=>true
 | i,n+1=>(!(decide (byteAt s (i:Int) < 97)) && !(decide (122 < byteAt s (i:Int)))) && wdFrom s (i+1) n
def wdB (s:ByteArray):Bool:=wdFrom s 0 s.size
def wordOk (s:ByteArray):Bool:=inR (s.size:Int) 1 8 && wdB s
theorem wd_step {s:ByteArray}{i:Nat}(h:i < s.size):wdFrom s i (s.size - i)=((!(decide (byteAt s (i:Int) < 97)) && !(decide (122 < byteAt s (i:Int)))) && wdFrom s (i+1) (s.size - (i+1))):=by
 have e:s.size - i=(s.size - (i+1))+1:=by omega
 rw[e];rfl
theorem wd_end {s:ByteArray}{i:Nat}(h:s.size≤i):wdFrom s i (s.size - i)=true:=by
 have e:s.size - i=0:=by omega
 rw[e];rfl
theorem any_at {α:Type}{p:α→Bool}{xs:List α}{i:Nat}{x:α}(h:xs[i]? =some x):(xs.drop i).any p=(p x || (xs.drop (i+1)).any p):=by
 obtain⟨hl,rfl⟩:=List.getElem?_eq_some_iff.1 h
 rw[List.drop_eq_getElem_cons hl];rfl
def ixF {α:Type}(p:α→Bool):List α→Nat→Int
 | [],_=> -1
 | x::xs,i=>if p x then (i:Int) else ixF p xs (i+1)
theorem ix_at {α:Type}{p:α→Bool}{xs:List α}{i:Nat}{x:α}(h:xs[i]? =some x):ixF p (xs.drop i) i=if p x then (i:Int) else ixF p (xs.drop (i+1)) (i+1):=by
 obtain⟨hl,rfl⟩:=List.getElem?_eq_some_iff.1 h
 rw[List.drop_eq_getElem_cons hl];rfl
theorem ix_end {α:Type}{p:α→Bool}{xs:List α}{i:Nat}(h:xs.length≤i):ixF p (xs.drop i) i= -1:=by
 rw[List.drop_of_length_le h];rfl
theorem ix_any {α:Type}{p:α→Bool}:∀(xs:List α) (i:Nat),decide (0≤ixF p xs i)=xs.any p
 | [],i=>rfl
 | x::xs,i=>by
  by_cases hp:p x=true
  ·simp [ixF,hp]
  simpa [ixF,hp] using ix_any xs (i+1)
theorem ix_any' {A:Alg}(hA:A=std){α:Type}{p:α→Bool}(xs:List α):A.cmp .geq (ixF p xs 0) 0=xs.any p:=by
 subst hA;exact ix_any xs 0
end Go.Av
namespace Go.Av
open Go Go.Proofs
set_option maxRecDepth 100000
set_option maxHeartbeats 4000000
set_option linter.unusedVariables false
set_option linter.unusedSimpArgs false
theorem ieq_dec (a b:Int):(a == b)=decide (a=b):=rfl
def kindIs (k v:Int)(r:GRec):Bool:=decide (r.Kind=k) && decide (r.Valid=v)
def mailIs (k v u:Int)(r:GRec):Bool:=kindIs k v r && decide (r.Uid=u)
def bySeqB (a b:GItem):Bool:=decide (a.Seq < b.Seq)
def byNextB (a b:GItem):Bool:=if a.Rec.Next=b.Rec.Next then decide (a.Seq < b.Seq) else decide (a.Rec.Next < b.Rec.Next)
def latStep (p:GRec→Bool)(lt:GItem→GItem→Bool)(b:Option GItem)(x:GItem):Option GItem:=if p x.Rec && (match b with | none=>true | some y=>lt y x) then some x else b
def lat (p:GRec→Bool)(lt:GItem→GItem→Bool)(xs:List GItem):Option GItem:=xs.foldl (latStep p lt) none
def zRec :GRec:=⟨0,0,0,0,0,ByteArray.empty,ByteArray.empty,ByteArray.empty⟩
def zItem :GItem:=⟨0,zRec⟩
def boxAt (v:Int)(xs:List GItem):Option GItem:=if (lat (kindIs 2 v) bySeqB xs).isSome=true then none else lat (kindIs 1 v) byNextB xs
def mailAt (v u:Int)(xs:List GItem):Option GItem:=if (boxAt v xs).isSome=true then (if (lat (mailIs 5 v u) bySeqB xs).isSome=true then none else lat (mailIs 3 v u) bySeqB xs) else none
def sortI (zs:List Int):List Int:=zs.mergeSort fun x y=>decide (x≤y)
def numL (p:GRec→Bool)(f:GRec→Int)(xs:List GItem):List Int:=(xs.filter fun x=>p x.Rec).map fun x=>f x.Rec
def numS (p:GRec→Bool)(f:GRec→Int)(xs:List GItem):List Int:=Lib.compact (sortI (numL p f xs))
def uidP (v:Int)(r:GRec):Bool:=kindIs 3 v r || kindIs 5 v r
def boxP (r:GRec):Bool:=decide (r.Kind=1)
def insS (zs:List Int)(x:Int):List Int:=zs.filter (fun y=>decide (y < x))++[x]++zs.filter (fun y=>decide (x < y))
def insStep (q:GRec→Bool)(f:GRec→Int)(s:List Int)(x:GItem):List Int:=if q x.Rec=true then insS s (f x.Rec) else s
def insF (q:GRec→Bool)(f:GRec→Int)(xs:List GItem):List Int:=xs.foldl (insStep q f) []
def recOk (r:GRec):Bool:=inR r.Valid 1 9999 && (((((decide (r.Kind=1) && (wordOk r.User && wordOk r.Name && inR r.Next 1 10000 && decide (r.Uid=0) && decide (r.Flags=0) && decide (r.Text=ByteArray.mk #[])))
 || (decide (r.Kind=2) && (decide (r.Uid=0) && decide (r.Next=0) && decide (r.Flags=0) && decide (r.User=ByteArray.mk #[]) && decide (r.Name=ByteArray.mk #[]) && decide (r.Text=ByteArray.mk #[]))))
 || (decide (r.Kind=3) && (inR r.Uid 1 9999 && inR r.Flags 0 7 && decide (r.Next=0) && decide (r.User=ByteArray.mk #[]) && decide (r.Name=ByteArray.mk #[]) && decide ((r.Text.size:Int)≤100))))
 || (decide (r.Kind=4) && (inR r.Uid 1 9999 && inR r.Flags 0 7 && decide (r.Next=0) && decide (r.User=ByteArray.mk #[]) && decide (r.Name=ByteArray.mk #[]) && decide (r.Text=ByteArray.mk #[]))))
 || (decide (r.Kind=5) && (inR r.Uid 1 9999 && decide (r.Next=0) && decide (r.Flags=0) && decide (r.User=ByteArray.mk #[]) && decide (r.Name=ByteArray.mk #[]) && decide (r.Text=ByteArray.mk #[]))))
def itmB (x:GItem):Bool:=inR x.Seq 1 1000000000 && recOk x.Rec
def clash (x y:GItem):Bool:=decide (y.Seq=x.Seq) && !(pvEqL (eItem y) (eItem x))
def itGo :List GItem→List GItem→Bool
 | _,[]=>true
 | pre,x::xs=>(itmB x && !(pre.any (clash x))) && itGo (pre++[x]) xs
def itemsOk (xs:List GItem):Bool:=decide ((xs.length:Int)≤200) && itGo [] xs
def mailX (v:Int)(xs:List GItem)(u:Int)(a:GItem):GMail:=⟨u,if (lat (mailIs 4 v u) bySeqB xs).isSome=true then ((lat (mailIs 4 v u) bySeqB xs).getD zItem).Rec.Flags else a.Rec.Flags,a.Rec.Text⟩
def mailOf (v:Int)(xs:List GItem)(u:Int):Option GMail:=if (mailAt v u xs).isSome=true then some (mailX v xs u ((mailAt v u xs).getD zItem)) else none
def mailR (v:Int)(xs:List GItem)(u:Int):GMail:=mailX v xs u ((lat (mailIs 3 v u) bySeqB xs).getD zItem)
def nextS (a:Int)(us:List Int):Int:=us.foldl (fun n u=>max n (u+1)) a
def boxS (xs:List GItem)(x:GItem):GBox:=⟨x.Rec.Valid,x.Rec.User,x.Rec.Name,nextS x.Rec.Next (numS (uidP x.Rec.Valid) GRec.Uid xs),(numS (uidP x.Rec.Valid) GRec.Uid xs).filterMap (mailOf x.Rec.Valid xs)⟩
def boxOf (xs:List GItem)(v:Int):Option GBox:=if (boxAt v xs).isSome=true then some (boxS xs ((boxAt v xs).getD zItem)) else none
def boxesS (xs:List GItem):List GBox:=(numS boxP GRec.Valid xs).filterMap (boxOf xs)
def stateS (xs:List GItem):GState:=if itemsOk xs=true then ⟨boxesS xs⟩ else ⟨[]⟩
def nextK (v:Int)(r:GRec):Int:=if (decide (r.Valid=v) && decide (r.Kind=1))=true then r.Next else if uidP v r=true then r.Uid+1 else 0
def nextR (v:Int)(xs:List GItem):Int:=xs.foldl (fun n x=>max n (nextK v x.Rec)) 1
def uidQ (v:Int)(xs:List GItem)(r:GRec):Bool:=kindIs 3 v r && !(lat (mailIs 5 v r.Uid) bySeqB xs).isSome
def uidsR (v:Int)(xs:List GItem):List Int:=insF (uidQ v xs) GRec.Uid xs
def mailsR (v:Int)(xs:List GItem):List GMail:=(uidsR v xs).map (mailR v xs)
def boxR (xs:List GItem)(v:Int):GBox:=⟨v,((lat (kindIs 1 v) byNextB xs).getD zItem).Rec.User,((lat (kindIs 1 v) byNextB xs).getD zItem).Rec.Name,nextR v xs,mailsR v xs⟩
def boxQ (xs:List GItem)(r:GRec):Bool:=boxP r && !(lat (mailIs 2 r.Valid 0) bySeqB xs).isSome
def validsR (xs:List GItem):List Int:=insF (boxQ xs) GRec.Valid xs
def boxesR (xs:List GItem):List GBox:=(validsR xs).map (boxR xs)
def itemsL (us:List GSeg):List GItem:=us.flatMap GSeg.Items
def stateR (xs:List GItem):GState:=if itemsOk xs=true then ⟨boxesR xs⟩ else ⟨[]⟩
end Go.Av
namespace Go.Av
open Go Go.Proofs
set_option maxRecDepth 100000
set_option maxHeartbeats 4000000
set_option linter.unusedVariables false
set_option linter.unusedSimpArgs false
theorem lat_at {p:GRec→Bool}{lt:GItem→GItem→Bool}{xs:List GItem}{i:Nat}{x:GItem}(h:xs[i]? =some x):lat p lt (xs.take (i+1))=latStep p lt (lat p lt (xs.take i)) x:=by
 rw[List.take_add_one,h];simp[lat,List.foldl_append]
theorem lat_no {p:GRec→Bool}{lt:GItem→GItem→Bool}{b:Option GItem}{x:GItem}(h:p x.Rec=false):latStep p lt b x=b:=by simp[latStep,h]
theorem lat_new {p:GRec→Bool}{lt:GItem→GItem→Bool}{b:Option GItem}{x:GItem}(h:p x.Rec=true)(hb:false=b.isSome):latStep p lt b x=some x:=by
 cases b with
 | none=>simp[latStep,h]
 | some y=>cases hb
theorem lat_lt {p:GRec→Bool}{lt:GItem→GItem→Bool}{b:Option GItem}{x y:GItem}(h:p x.Rec=true)(hb:true=b.isSome)(hy:y=b.getD zItem)(hl:lt y x=true):latStep p lt b x=some x:=by
 cases b with
 | none=>cases hb
 | some z=>have hy:y=z:=hy;subst hy;simp[latStep,h,hl]
theorem lat_ge {p:GRec→Bool}{lt:GItem→GItem→Bool}{b:Option GItem}{x y:GItem}(hb:true=b.isSome)(hy:y=b.getD zItem)(hl:lt y x=false):latStep p lt b x=b:=by
 cases b with
 | none=>cases hb
 | some z=>have hy:y=z:=hy;subst hy;simp[latStep,hl]
theorem r_impl_about (A:Alg)(hA:A=std)(r:GRec)(k:Int)(v:Int):Real Tryz.prog 105 [.agg (eRec r),.ii k,.ii v] (.bool (kindIs k v r)):=by
 obtain⟨a2,a0,a7,a3,a1,a5,a6,a4⟩:=r
 refine real_args (args':=[.agg [.ii a2,.ii a0,.ii a7,.ii a3,.ii a1,.str a5,.str a6,.str a4],.ii k,.ii v]) (by rfl) ?_
 refine real tyOk Tryz.func105 (by kernel_rfl) (afun_of rfl ?_)
 refine gx hA 2 ?_
 refine gs (gr (rn hA 5 ?_))
 refine ops_split 11 rfl (fun c1=> ?_) (fun c1=> ?_)
 ·
  have ec1:a2=k:=eql_t hA c1
  refine rz hA 6 ?_
  refine rt (gt ?_)
  show _=(PV.bool (A.cmp .eql a0 v))
  refine congrArg PV.bool ?_
  subst hA
  simp[kindIs,std,Bool.beq_eq_decide_eq,ieq_dec,ec1]
 have ec1:a2≠k:=eql_f hA c1
 refine rz hA 6 ?_
 refine rt (gt ?_)
 refine congrArg PV.bool ?_
 subst hA
 simp[kindIs,std,Bool.beq_eq_decide_eq,ieq_dec,ec1,ec1.symm]
theorem r_mailItem_f (A:Alg)(hA:A=std)(r:GRec)(k v u:Int):Real Tryz.prog 137 [.agg (eRec r),.rd [.ii k],.rd [.ii v],.rd [.ii u]] (.bool (mailIs k v u r)):=by
 obtain⟨a2,a0,a7,a3,a1,a5,a6,a4⟩:=r
 refine real_args (args':=[.agg [.ii a2,.ii a0,.ii a7,.ii a3,.ii a1,.str a5,.str a6,.str a4],.rd [.ii k],.rd [.ii v],.rd [.ii u]]) (by rfl) ?_
 refine real tyOk Tryz.func137 (by kernel_rfl) (afun_of rfl ?_)
 refine gx hA 2 ?_
 refine gs (gr (rn hA 3 ?_))
 obtain⟨d0,d2,hc2⟩:∃(d0:Bool),d0=(kindIs k v (⟨a2,a0,a7,a3,a1,a5,a6,a4⟩:GRec))∧Real Tryz.prog 105 [.agg [.ii a2,.ii a0,.ii a7,.ii a3,.ii a1,.str a5,.str a6,.str a4],.ii k,.ii v] (.bool d0):=⟨_,rfl,by exact r_impl_about A hA (⟨a2,a0,a7,a3,a1,a5,a6,a4⟩:GRec) k v⟩
 refine cvw hc2 (.inr rfl) ?_
 refine rn hA 1 ?_
 refine ops_split 10 rfl (fun c3=> ?_) (fun c3=> ?_)
 ·
  refine rz hA 6 ?_
  refine rt (gt ?_)
  show _=(PV.bool (A.cmp .eql a7 u))
  refine congrArg PV.bool ?_
  subst d2
  subst hA
  simp[mailIs,std,Bool.beq_eq_decide_eq,ieq_dec,c3]
 refine rz hA 6 ?_
 refine rt (gt ?_)
 refine congrArg PV.bool ?_
 subst d2
 subst hA
 simp[mailIs,std,Bool.beq_eq_decide_eq,ieq_dec,c3]
theorem r_boxThere_f (A:Alg)(hA:A=std)(r:GRec)(v:Int):Real Tryz.prog 104 [.agg (eRec r),.rd [.ii v]] (.bool (kindIs 2 v r)):=by
 obtain⟨a2,a0,a7,a3,a1,a5,a6,a4⟩:=r
 refine real_args (args':=[.agg [.ii a2,.ii a0,.ii a7,.ii a3,.ii a1,.str a5,.str a6,.str a4],.rd [.ii v]]) (by rfl) ?_
 refine real tyOk Tryz.func104 (by kernel_rfl) (afun_of rfl ?_)
 refine gx hA 2 ?_
 refine gs (gr (rn hA 2 ?_))
 obtain⟨c6,c9,hc2⟩:∃(c6:Bool),c6=(kindIs 2 v (⟨a2,a0,a7,a3,a1,a5,a6,a4⟩:GRec))∧Real Tryz.prog 105 [.agg [.ii a2,.ii a0,.ii a7,.ii a3,.ii a1,.str a5,.str a6,.str a4],.ii 2,.ii v] (.bool c6):=⟨_,rfl,by exact r_impl_about A hA (⟨a2,a0,a7,a3,a1,a5,a6,a4⟩:GRec) 2 v⟩
 refine cvw hc2 (.inr rfl) ?_
 refine rz hA 1 ?_
 refine rt (gt ?_)
 refine congrArg PV.bool ?_
 subst c9
 subst hA
 simp[kindIs,std,Bool.beq_eq_decide_eq,ieq_dec,]
theorem r_boxThere_g (A:Alg)(hA:A=std)(r:GRec)(v:Int):Real Tryz.prog 107 [.agg (eRec r),.rd [.ii v]] (.bool (kindIs 1 v r)):=by
 obtain⟨a2,a0,a7,a3,a1,a5,a6,a4⟩:=r
 refine real_args (args':=[.agg [.ii a2,.ii a0,.ii a7,.ii a3,.ii a1,.str a5,.str a6,.str a4],.rd [.ii v]]) (by rfl) ?_
 refine real tyOk Tryz.func107 (by kernel_rfl) (afun_of rfl ?_)
 refine gx hA 2 ?_
 refine gs (gr (rn hA 2 ?_))
 obtain⟨c6,c9,hc2⟩:∃(c6:Bool),c6=(kindIs 1 v (⟨a2,a0,a7,a3,a1,a5,a6,a4⟩:GRec))∧Real Tryz.prog 105 [.agg [.ii a2,.ii a0,.ii a7,.ii a3,.ii a1,.str a5,.str a6,.str a4],.ii 1,.ii v] (.bool c6):=⟨_,rfl,by exact r_impl_about A hA (⟨a2,a0,a7,a3,a1,a5,a6,a4⟩:GRec) 1 v⟩
 refine cvw hc2 (.inr rfl) ?_
 refine rz hA 1 ?_
 refine rt (gt ?_)
 refine congrArg PV.bool ?_
 subst c9
 subst hA
 simp[kindIs,std,Bool.beq_eq_decide_eq,ieq_dec,]
theorem r_impl_bySeq (A:Alg)(hA:A=std)(a:GItem)(b:GItem):Real Tryz.prog 106 [.agg (eItem a),.agg (eItem b)] (.bool (bySeqB a b)):=by
 obtain⟨c8,⟨b4,b1,c4,a8,b3,c0,b6,b9⟩⟩:=a
 obtain⟨c7,⟨b8,b2,c5,a9,b0,b5,b7,c2⟩⟩:=b
 refine real_args (args':=[.agg [.ii c8,.ii b4,.ii b1,.ii c4,.ii a8,.ii b3,.str c0,.str b6,.str b9],.agg [.ii c7,.ii b8,.ii b2,.ii c5,.ii a9,.ii b0,.str b5,.str b7,.str c2]]) (by rfl) ?_
 refine real tyOk Tryz.func106 (by kernel_rfl) (afun_of rfl ?_)
 refine gx hA 3 ?_
 refine gx hA 6 ?_
 refine rt (gt ?_)
 show _=(PV.bool (A.cmp .lss c8 c7))
 refine congrArg PV.bool ?_
 subst hA
 simp[bySeqB,std,Bool.beq_eq_decide_eq,ieq_dec,]
theorem r_impl_byNext (A:Alg)(hA:A=std)(a:GItem)(b:GItem):Real Tryz.prog 108 [.agg (eItem a),.agg (eItem b)] (.bool (byNextB a b)):=by
 obtain⟨c8,⟨b4,b1,c4,a8,b3,c0,b6,b9⟩⟩:=a
 obtain⟨c7,⟨b8,b2,c5,a9,b0,b5,b7,c2⟩⟩:=b
 refine real_args (args':=[.agg [.ii c8,.ii b4,.ii b1,.ii c4,.ii a8,.ii b3,.str c0,.str b6,.str b9],.agg [.ii c7,.ii b8,.ii b2,.ii c5,.ii a9,.ii b0,.str b5,.str b7,.str c2]]) (by rfl) ?_
 refine real tyOk Tryz.func108 (by kernel_rfl) (afun_of rfl ?_)
 refine gx hA 3 ?_
 refine gs (gx hA 7 ?_)
 refine gc (fun c1=> ?_) (fun c1=> ?_)
 ·
  have ec1:a8≠a9:=neq_t hA c1
  refine gx hA 8 ?_
  refine rt (gt ?_)
  show _=(PV.bool (A.cmp .lss a8 a9))
  refine congrArg PV.bool ?_
  subst hA
  simp[byNextB,std,Bool.beq_eq_decide_eq,ieq_dec,ec1,ec1.symm]
 have ec1:a8=a9:=neq_f hA c1
 refine gk (gx hA 6 ?_)
 refine rt (gt ?_)
 show _=(PV.bool (A.cmp .lss c8 c7))
 refine congrArg PV.bool ?_
 subst hA
 simp[byNextB,std,Bool.beq_eq_decide_eq,ieq_dec,ec1]
theorem r_needed_f (A:Alg)(hA:A=std)(r:GRec)(cq0 cq1 cq2 cq3 cq4:Int)(cq5 cq6 cq7:ByteArray):Real Tryz.prog 153 [.agg (eRec r),.rd [.ii cq0,.ii cq1,.ii cq2,.ii cq3,.ii cq4,.str cq5,.str cq6,.str cq7]] (.bool (kindIs 2 cq1 r)):=by
 obtain⟨a2,a0,a7,a3,a1,a5,a6,a4⟩:=r
 refine real_args (args':=[.agg [.ii a2,.ii a0,.ii a7,.ii a3,.ii a1,.str a5,.str a6,.str a4],.rd [.ii cq0,.ii cq1,.ii cq2,.ii cq3,.ii cq4,.str cq5,.str cq6,.str cq7]]) (by rfl) ?_
 refine real tyOk Tryz.func153 (by kernel_rfl) (afun_of rfl ?_)
 refine gx hA 2 ?_
 refine gs (gr (rn hA 3 ?_))
 obtain⟨d1,d3,hc2⟩:∃(d1:Bool),d1=(kindIs 2 cq1 (⟨a2,a0,a7,a3,a1,a5,a6,a4⟩:GRec))∧Real Tryz.prog 105 [.agg [.ii a2,.ii a0,.ii a7,.ii a3,.ii a1,.str a5,.str a6,.str a4],.ii 2,.ii cq1] (.bool d1):=⟨_,rfl,by exact r_impl_about A hA (⟨a2,a0,a7,a3,a1,a5,a6,a4⟩:GRec) 2 cq1⟩
 refine cvw hc2 (.inr rfl) ?_
 refine rz hA 1 ?_
 refine rt (gt ?_)
 refine congrArg PV.bool ?_
 subst d3
 subst hA
 simp[kindIs,std,Bool.beq_eq_decide_eq,ieq_dec,]
end Go.Av

/- ShowStore: the program and the reference answer alike at every store, and leave what came in as it was. -/
import Derived.Test.YtjbokkoiicoahaaGreatDoorL1
import Derived.Test.YtjbokkoiicoahaaGreatDoorRows
import Derived.Test.YtjbokkoiicoahaaGreatDoorCards
import Derived.Test.YtjbokkoiicoahaaGreatDoorTie
import Derived.ProofKit
import Derived.Lay
import Derived.LaidMore
import Derived.MakeChecks
import Derived.Lib.LaidTab
import Derived.Lib.ItoaNum
import Derived.Stop.LaidErr
import Derived.Shelf.Vars
import Derived.SevenTiedAt
namespace Go.Proofs.YtjbokkoiicoahaaGreatDoor
open Go.ChangeShapes Go.WideShapes Go.ChangeAt Go.RowKit Go.Av

theorem Tryz.own :ownKnob Tryz.prog.godebug=none:=by kernel_rfl
theorem Tryz.laidOut :laidOutB Tryz.prog=true:=by kernel_rfl

def shWrite :Sh:=.struct (.cons 3 (.int .i64) (.cons 9 .str .nil))
def shDisk :Sh:=.struct (.cons 22 (.slice 9 .str) (.cons 23 (.slice 131 shWrite) .nil))
def shRec :Sh:=.struct (.cons 3 (.int .i64) (.cons 3 (.int .i64) (.cons 3 (.int .i64) (.cons 3 (.int .i64) (.cons 3 (.int .i64) (.cons 9 .str (.cons 9 .str (.cons 9 .str .nil))))))))
def shItem :Sh:=.struct (.cons 3 (.int .i64) (.cons 156 shRec .nil))
def shSeg :Sh:=.struct (.cons 3 (.int .i64) (.cons 3 (.int .i64) (.cons 3 (.int .i64) (.cons 85 (.slice 158 shItem) .nil))))
def shLog :Sh:=.struct (.cons 25 shDisk (.cons 3 (.int .i64) (.cons 26 (.slice 87 shSeg) (.cons 3 (.int .i64) (.cons 3 (.int .i64) (.cons 3 (.int .i64) (.cons 3 (.int .i64) .nil)))))))
def shStore :Sh:=.struct (.cons 28 shLog (.cons 29 (.slice 3 (.int .i64)) .nil))
theorem of_StringS (c:List PV)(h:(Sh.slice 9 .str).Is c):∃ xs,c=[.sl 1 (List.map eString xs)]∧∀ k∈zsStringS xs,(k:Int)≤9223372036854775807:=by
  obtain⟨rows,rfl,hl,hrows⟩:=h
  obtain⟨xs,rfl,hp⟩:=rows_of eString (fun x=>x.size≤maxLen) (fun r h=>by obtain⟨n,rfl,h2⟩:=h;exact⟨n,rfl,h2⟩) rows hrows
  have hl:xs.length≤maxLen:=by simpa using hl
  refine⟨xs,rfl,fun k hk=> ?_⟩
  simp only[zsStringS,List.mem_cons,List.mem_flatMap] at hk
  rcases hk with rfl | ⟨x,hx,hk⟩
  · unfold maxLen at hl;omega
  · have hk:=List.mem_singleton.1 hk
    have:=hp x hx
    subst hk;unfold maxLen at this;omega
theorem of_Write (r:List PV)(h:shWrite.Is r):∃ x:GWrite,r=eWrite x∧∀ k∈zsWrite x,(k:Int)≤9223372036854775807:=by
  obtain⟨c0,r0,rfl,h0,c1,r1,rfl,h1,hn⟩:=h
  have hn:r1=[]:=hn
  subst hn
  obtain⟨x0,rfl,_⟩:=h0
  obtain⟨x1,rfl,b1⟩:=h1
  refine⟨⟨x0,x1⟩,rfl,fun k hk=> ?_⟩
  simp only[zsWrite] at hk
  rcases List.mem_append.1 hk with hk | hk
  · have hk:=List.mem_singleton.1 hk;subst hk;unfold maxLen at b1;show((ByteArray.size x1:Nat):Int)≤_;omega
  · simp at hk
theorem of_WriteS (c:List PV)(h:(Sh.slice 131 shWrite).Is c):∃ xs,c=[.sl 2 (List.map eWrite xs)]∧∀ k∈zsWriteS xs,(k:Int)≤9223372036854775807:=by
  obtain⟨rows,rfl,hl,hrows⟩:=h
  obtain⟨xs,rfl,hp⟩:=rows_of eWrite (fun x=>∀ k∈zsWrite x,(k:Int)≤9223372036854775807) of_Write rows hrows
  have hl:xs.length≤maxLen:=by simpa using hl
  refine⟨xs,rfl,fun k hk=> ?_⟩
  simp only[zsWriteS,List.mem_cons,List.mem_flatMap] at hk
  rcases hk with rfl | ⟨x,hx,hk⟩
  · unfold maxLen at hl;omega
  · exact hp x hx k hk
theorem of_Disk (r:List PV)(h:shDisk.Is r):∃ x:GDisk,r=eDisk x∧∀ k∈zsDisk x,(k:Int)≤9223372036854775807:=by
  obtain⟨c0,r0,rfl,h0,c1,r1,rfl,h1,hn⟩:=h
  have hn:r1=[]:=hn
  subst hn
  obtain⟨x0,rfl,b0⟩:=of_StringS _ h0
  obtain⟨x1,rfl,b1⟩:=of_WriteS _ h1
  refine⟨⟨x0,x1⟩,rfl,fun k hk=> ?_⟩
  simp only[zsDisk] at hk
  rcases List.mem_append.1 hk with hk | hk
  · exact b0 k hk
  rcases List.mem_append.1 hk with hk | hk
  · exact b1 k hk
  · simp at hk
theorem of_Rec (r:List PV)(h:shRec.Is r):∃ x:GRec,r=eRec x∧∀ k∈zsRec x,(k:Int)≤9223372036854775807:=by
  obtain⟨c0,r0,rfl,h0,c1,r1,rfl,h1,c2,r2,rfl,h2,c3,r3,rfl,h3,c4,r4,rfl,h4,c5,r5,rfl,h5,c6,r6,rfl,h6,c7,r7,rfl,h7,hn⟩:=h
  have hn:r7=[]:=hn
  subst hn
  obtain⟨x0,rfl,_⟩:=h0
  obtain⟨x1,rfl,_⟩:=h1
  obtain⟨x2,rfl,_⟩:=h2
  obtain⟨x3,rfl,_⟩:=h3
  obtain⟨x4,rfl,_⟩:=h4
  obtain⟨x5,rfl,b5⟩:=h5
  obtain⟨x6,rfl,b6⟩:=h6
  obtain⟨x7,rfl,b7⟩:=h7
  refine⟨⟨x0,x1,x2,x3,x4,x5,x6,x7⟩,rfl,fun k hk=> ?_⟩
  simp only[zsRec] at hk
  rcases List.mem_append.1 hk with hk | hk
  · have hk:=List.mem_singleton.1 hk;subst hk;unfold maxLen at b5;show((ByteArray.size x5:Nat):Int)≤_;omega
  rcases List.mem_append.1 hk with hk | hk
  · have hk:=List.mem_singleton.1 hk;subst hk;unfold maxLen at b6;show((ByteArray.size x6:Nat):Int)≤_;omega
  rcases List.mem_append.1 hk with hk | hk
  · have hk:=List.mem_singleton.1 hk;subst hk;unfold maxLen at b7;show((ByteArray.size x7:Nat):Int)≤_;omega
  · simp at hk
theorem of_Item (r:List PV)(h:shItem.Is r):∃ x:GItem,r=eItem x∧∀ k∈zsItem x,(k:Int)≤9223372036854775807:=by
  obtain⟨c0,r0,rfl,h0,c1,r1,rfl,h1,hn⟩:=h
  have hn:r1=[]:=hn
  subst hn
  obtain⟨x0,rfl,_⟩:=h0
  obtain⟨x1,rfl,b1⟩:=of_Rec _ h1
  refine⟨⟨x0,x1⟩,rfl,fun k hk=> ?_⟩
  simp only[zsItem] at hk
  rcases List.mem_append.1 hk with hk | hk
  · exact b1 k hk
  · simp at hk
theorem of_ItemS (c:List PV)(h:(Sh.slice 158 shItem).Is c):∃ xs,c=[.sl 9 (List.map eItem xs)]∧∀ k∈zsItemS xs,(k:Int)≤9223372036854775807:=by
  obtain⟨rows,rfl,hl,hrows⟩:=h
  obtain⟨xs,rfl,hp⟩:=rows_of eItem (fun x=>∀ k∈zsItem x,(k:Int)≤9223372036854775807) of_Item rows hrows
  have hl:xs.length≤maxLen:=by simpa using hl
  refine⟨xs,rfl,fun k hk=> ?_⟩
  simp only[zsItemS,List.mem_cons,List.mem_flatMap] at hk
  rcases hk with rfl | ⟨x,hx,hk⟩
  · unfold maxLen at hl;omega
  · exact hp x hx k hk
theorem of_Seg (r:List PV)(h:shSeg.Is r):∃ x:GSeg,r=eSeg x∧∀ k∈zsSeg x,(k:Int)≤9223372036854775807:=by
  obtain⟨c0,r0,rfl,h0,c1,r1,rfl,h1,c2,r2,rfl,h2,c3,r3,rfl,h3,hn⟩:=h
  have hn:r3=[]:=hn
  subst hn
  obtain⟨x0,rfl,_⟩:=h0
  obtain⟨x1,rfl,_⟩:=h1
  obtain⟨x2,rfl,_⟩:=h2
  obtain⟨x3,rfl,b3⟩:=of_ItemS _ h3
  refine⟨⟨x0,x1,x2,x3⟩,rfl,fun k hk=> ?_⟩
  simp only[zsSeg] at hk
  rcases List.mem_append.1 hk with hk | hk
  · exact b3 k hk
  · simp at hk
theorem of_SegS (c:List PV)(h:(Sh.slice 87 shSeg).Is c):∃ xs,c=[.sl 4 (List.map eSeg xs)]∧∀ k∈zsSegS xs,(k:Int)≤9223372036854775807:=by
  obtain⟨rows,rfl,hl,hrows⟩:=h
  obtain⟨xs,rfl,hp⟩:=rows_of eSeg (fun x=>∀ k∈zsSeg x,(k:Int)≤9223372036854775807) of_Seg rows hrows
  have hl:xs.length≤maxLen:=by simpa using hl
  refine⟨xs,rfl,fun k hk=> ?_⟩
  simp only[zsSegS,List.mem_cons,List.mem_flatMap] at hk
  rcases hk with rfl | ⟨x,hx,hk⟩
  · unfold maxLen at hl;omega
  · exact hp x hx k hk
theorem of_Log (r:List PV)(h:shLog.Is r):∃ x:GLog,r=eLog x∧∀ k∈zsLog x,(k:Int)≤9223372036854775807:=by
  obtain⟨c0,r0,rfl,h0,c1,r1,rfl,h1,c2,r2,rfl,h2,c3,r3,rfl,h3,c4,r4,rfl,h4,c5,r5,rfl,h5,c6,r6,rfl,h6,hn⟩:=h
  have hn:r6=[]:=hn
  subst hn
  obtain⟨x0,rfl,b0⟩:=of_Disk _ h0
  obtain⟨x1,rfl,_⟩:=h1
  obtain⟨x2,rfl,b2⟩:=of_SegS _ h2
  obtain⟨x3,rfl,_⟩:=h3
  obtain⟨x4,rfl,_⟩:=h4
  obtain⟨x5,rfl,_⟩:=h5
  obtain⟨x6,rfl,_⟩:=h6
  refine⟨⟨x0,x1,x2,x3,x4,x5,x6⟩,rfl,fun k hk=> ?_⟩
  simp only[zsLog] at hk
  rcases List.mem_append.1 hk with hk | hk
  · exact b0 k hk
  rcases List.mem_append.1 hk with hk | hk
  · exact b2 k hk
  · simp at hk
theorem of_IntS (c:List PV)(h:(Sh.slice 3 (.int .i64)).Is c):∃ xs,c=[.sl 1 (List.map eInt xs)]∧∀ k∈zsIntS xs,(k:Int)≤9223372036854775807:=by
  obtain⟨rows,rfl,hl,hrows⟩:=h
  obtain⟨xs,rfl,hp⟩:=rows_of eInt (fun _=>True) (fun r h=>by obtain⟨n,rfl,_⟩:=h;exact⟨n,rfl,trivial⟩) rows hrows
  have hl:xs.length≤maxLen:=by simpa using hl
  refine⟨xs,rfl,fun k hk=> ?_⟩
  have hk:=List.mem_singleton.1 hk
  subst hk;unfold maxLen at hl;omega
theorem of_Store (r:List PV)(h:shStore.Is r):∃ x:GStore,r=eStore x∧∀ k∈zsStore x,(k:Int)≤9223372036854775807:=by
  obtain⟨c0,r0,rfl,h0,c1,r1,rfl,h1,hn⟩:=h
  have hn:r1=[]:=hn
  subst hn
  obtain⟨x0,rfl,b0⟩:=of_Log _ h0
  obtain⟨x1,rfl,b1⟩:=of_IntS _ h1
  refine⟨⟨x0,x1⟩,rfl,fun k hk=> ?_⟩
  simp only[zsStore] at hk
  rcases List.mem_append.1 hk with hk | hk
  · exact b0 k hk
  rcases List.mem_append.1 hk with hk | hk
  · exact b1 k hk
  · simp at hk

theorem lawReal (pvs:List PV)(h:ArgsIs [shStore] pvs):Real Tryz.prog 3 pvs (.bool true):=by
  obtain⟨cs0,r0,hI0,rfl,h0⟩:=h
  have h0:r0=[]:=h0
  subst h0
  obtain⟨x0,rfl,b0⟩:=of_Store _ hI0
  exact r_laws_FnExactShowStore std rfl x0 b0

/-- What the row's condition and the start say of the library's variables. -/
theorem inv_of {W:World}(hL:laidMetH Tryz.prog Rows.fnExactShowStoreRow.laid W)(hsh:W.ShapedOpen Tryz.prog):Inv Tryz.prog W:=by
  have e3 : Tryz.prog.globalNamed "internal/strconv.uint64pow10" = some 0 := by kernel_rfl
  have e0 : Tryz.prog.globalNamed "internal/bytealg.MaxLen" = some 1 := by kernel_rfl
  rw[MakeChecks.laidMetH_plain _ _ _ (by kernel_rfl)] at hL
  have ht : Lib.TabIs Tryz.prog W "internal/strconv.uint64pow10" .u64 tabP := Lib.tabIs_of_head (t := 185) (e := 165) (n := 20) e3 (by kernel_rfl) (by kernel_rfl) (by kernel_rfl) (by kernel_rfl) (by kernel_rfl) (laidMet.tail (laidMet.tail hL))
  obtain⟨m,hm⟩:=cell_of_shapedOpen_int (P:=Tryz.prog) (g:=1) (t:=3) (zero:=#[.int .i64 0]) (k:=.i64) hsh (of_decide_eq_true (by kernel_rfl)) (by kernel_rfl) rfl (by kernel_rfl) (by kernel_rfl) Tryz.underlying3
  refine⟨fun g hg=> ?_,fun g hg=> ?_,fun g hg=> ?_⟩
  · rcases hg with hg | hg
    · obtain rfl:=Option.some.inj (e3.symm.trans hg)
      have hc:=ht.cell e3 0 (by decide)
      unfold World.cell? at hc
      cases hb:W.heap[0]? with
      | none=>simp[hb] at hc
      | some o=>exact(Array.getElem?_eq_some_iff.1 hb).1
    · obtain rfl:=Option.some.inj (e0.symm.trans hg)
      unfold World.cell? at hm
      cases hb:W.heap[1]? with
      | none=>simp[hb] at hm
      | some o=>exact(Array.getElem?_eq_some_iff.1 hb).1
  · exact ht
  · obtain rfl:=Option.some.inj (e0.symm.trans hg)
    exact⟨m,hm⟩

set_option maxRecDepth 100000 in
theorem law_lifted (os:Os)(started:os.Started)(H:Type)(enc:TypeId × Value→H):
    ReturnsInHanded {} Tryz.checked os 3 .any (fun w args=>(Rows.fnExactShowStoreSpec.pre enc Tryz.prog Tryz.f3 [] false w args∧laidMetH Tryz.prog Rows.fnExactShowStoreRow.laid w)∧sizedMet enc Tryz.prog Tryz.f3 (OpenSpec.ofChange Rows.fnExactShowStoreSpec) false w args)
      (Rows.fnExactShowStoreSpec.post enc Tryz.prog Tryz.f3 false true false false):=by
  refine returnsInHanded_of_calls (C:=Tryz.checked) Tryz.own started (by kernel_rfl)
    (ChangeSpec.witness_at (enc:=enc) (C:=Tryz.checked) (os:=os) (X:=fun w _=>laidMetH Tryz.prog Rows.fnExactShowStoreRow.laid w) false (World.laidAll Tryz.prog os Rows.fnExactShowStoreRow.laid) #[.agg #[.slice none 0 0,.slice none 0 0,.int .i64 0,.slice none 0 0,.int .i64 0,.int .i64 0,.int .i64 0,.int .i64 0,.slice none 0 0]] 8 (World.laidAll_os _ _ _) (by kernel_rfl) (by kernel_rfl) (by kernel_rfl) (by kernel_rfl) (by kernel_rfl)
      (by rw[MakeChecks.laidMetH_plain _ _ _ (by kernel_rfl)];exact laidMet_laidAll _ (by kernel_rfl) (by kernel_rfl))) ?_
  intro w tape i _ hsh _ hok hpre hholds
  obtain⟨_,_,_,fn',hfn',_,_,_,_,hval⟩:=hok
  have e:fn'=Tryz.f3:=Option.some.inj (hfn'.symm.trans Tryz.func3)
  subst e
  obtain⟨⟨⟨ds,gs,before,hw,_⟩,hx⟩,_⟩:=hpre
  have hx:laidMetH Tryz.prog Rows.fnExactShowStoreRow.laid (w.forCall tape i):=hx.of_heap (by rfl)
  have hW:=DataW.Whole.of_heap (w':=w.forCall tape i) (by rfl) hw
  suffices hs:Calls Tryz.prog 3 i.args (w.forCall tape i) fun e W'=>∃ v,e=.returned v∧Rows.fnExactShowStoreSpec.post enc Tryz.prog Tryz.f3 false true false false (w.forCall tape i) i.args v W' from
    hs.mono fun e W' ⟨v,he,hp⟩=>by subst he;exact ChangeSpec.post_blind hp
  refine calls_true (P:=Tryz.prog) (ss:=[shStore]) (tr:=4) Tryz.laidOut rfl ?_ rfl (by kernel_rfl) (allShB_ok _ _ (by kernel_rfl)) ?_ lawReal (inv_of hx hsh) hval hW
  · intro t ht
    have ht:t=31:=List.mem_singleton.1 ht
    subst ht
    exact⟨by kernel_rfl,of_decide_eq_true (by kernel_rfl)⟩
  · intro ds hds
    match ds,hds with
    | [d0],_=>rfl

theorem showStore_holds :Rows.FnExactShowStoreSaid:=
  OpenClaim.holds_of_wide 3 Tryz.f3 rfl rfl rfl rfl rfl rfl rfl ⟨rfl,rfl,rfl,rfl,rfl⟩ rfl rfl rfl rfl rfl (by kernel_rfl) Tryz.func3 (by kernel_rfl)
    (of_decide_eq_true (by kernel_rfl)) (by unfold Func.isWrapper;rw[if_neg (by decide +kernel)];exact⟨rfl,rfl⟩)
    (fun os started H enc _=>law_lifted os started H enc)

theorem showStore_card_holds :Rows.FnExactShowStoreCardSaid:=
  Claim7.holds_tied_plain_at .later [] [.data, .data, .data] true (true, "809c34e906ed45fbfca6db051779c09e85ed12b289004cc495e88132853f4c87") false
    showStore_holds (fun _ h=>by cases h) (by kernel_rfl) (fun _ h=>by cases h) fnExactShowStore_row_tie rfl ⟨rfl,rfl⟩ (by kernel_rfl) rfl
    (fun f fn hf hfn=>by
      obtain rfl : f = 3 := Option.some.inj ((show Tryz.prog.funcNamed "loop.example/g00287/laws.FnExactShowStore" = some 3 by kernel_rfl).symm.trans hf) |>.symm
      obtain rfl:fn=Tryz.f3:=(Option.some.inj (Tryz.func3.symm.trans hfn)).symm
      exact⟨by kernel_rfl,fun j t ht=>by
        rw[Tryz.params3] at ht
        have hm:t∈[31]:=by simpa using Array.mem_of_getElem? ht
        have hall:([31].all fun u=> !Tryz.prog.wantsStandIn u)=true:=by kernel_rfl
        exact(show Tryz.prog.wantsStandIn t=false by simpa using List.all_eq_true.1 hall t hm)⟩)
    (by kernel_rfl)

#print axioms showStore_card_holds
end Go.Proofs.YtjbokkoiicoahaaGreatDoor

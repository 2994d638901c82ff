/- ServerNew: the program and the reference answer alike at every number of segments and list of users, leave what came in as it was, and share nothing. -/
import Derived.Test.YtghokbigemmaaaaGreatL1
import Derived.Test.YtghokbigemmaaaaGreatEJ
import Derived.Test.YtghokbigemmaaaaGreatRows
import Derived.ProofKit
import Derived.Shelf.Vars
import Derived.HandedShaped
namespace Go.Proofs.YtghokbigemmaaaaGreat
open Go.ChangeShapes Go.WideShapes Go.ChangeAt Go.RowKit Go.Av

theorem Tryz.own :ownKnob Tryz.prog.godebug=none:=by kernel_rfl
theorem Tryz.laidOut :laidOutB Tryz.prog=true:=by kernel_rfl

theorem OP (c:List PV)(h:(Sh.slice 9 .str).Is c):∃ xs,c=[.sl 1 (List.map ah xs)]/\∀ k∈bR xs,(k:Int)<=9223372036854775807:=by
  obtain⟨rows,rfl,hl,hrows⟩:=h;obtain⟨xs,rfl,hp⟩:=MM ah (λx=>x.size<=maxLen) (λr h=>by obtain⟨n,rfl,h2⟩:=h;exact⟨n,rfl,h2⟩) rows hrows;have hl:xs.length<=maxLen:=by simpa using hl
  refine⟨xs,rfl,λk hk=> ?_⟩;simp only[bR,List.mem_cons,List.mem_flatMap] at hk;rcases hk with rfl | ⟨x,hx,hk⟩
  · unfold maxLen at hl;omega
  · have hk:=List.mem_singleton.1 hk
    have:=hp x hx;subst hk;unfold maxLen at this;omega

theorem UM (pvs:List PV)(h:EF [(.int .i64),(.slice 9 .str)] pvs):Real Tryz.prog 3 pvs (.bool true):=by
  obtain⟨cs0,r0,zA,rfl,h0⟩:=h;obtain⟨Mw,r1,AP,rfl,h1⟩:=h0;have h1:r1=[]:=h1;subst h1;obtain⟨x0,rfl,b0⟩:=zA;obtain⟨x1,rfl,b1⟩:=OP _ AP;exact vf aj rfl x0 x1 b1

theorem We {W:World}(hsh:W.ShapedOpen Tryz.prog):Inv Tryz.prog W:=by
  have e3 : Tryz.prog.globalNamed "internal/strconv.uint64pow10" = none := by kernel_rfl
  have e0 : Tryz.prog.globalNamed "internal/bytealg.MaxLen" = some 0 := by kernel_rfl
  obtain⟨m,hm⟩:=cell_of_shapedOpen_int (P:=Tryz.prog) (g:=0) (t:=3) (zero:=#[.int .i64 0]) (k:=.i64) hsh (of_decide_eq_true (by kernel_rfl)) (by kernel_rfl) rfl (by kernel_rfl) (by kernel_rfl) Tryz.underlying3;refine⟨λg hg=> ?_,λg hg=> ?_,λg hg=> ?_⟩
  · rcases hg with hg | hg
    · rw[e3] at hg;cases hg
    · obtain rfl:=Option.some.inj (e0.symm.trans hg)
      unfold World.cell? at hm;cases hb:W.heap[0]? with
      | none=>simp[hb] at hm
      | some o=>exact(Array.getElem?_eq_some_iff.1 hb).1
  · rw[e3] at hg;cases hg
  · obtain rfl:=Option.some.inj (e0.symm.trans hg)
    exact⟨m,hm⟩

set_option maxRecDepth 100000 in
theorem OQ (os:Os)(started:os.Started)(H:Type)(enc:TypeId × Value->H):
    ReturnsInHanded {} Tryz.checked os 3 .any (Rows.fnExactServerNewSpec.pre6 enc Tryz.prog Tryz.f3 Rows.fnExactServerNewRow.domain false) (Rows.fnExactServerNewSpec.post enc Tryz.prog Tryz.f3 false true false false):=by
  refine returnsInHanded_of_change_shaped (C:=Tryz.checked) Tryz.own started (by kernel_rfl) Tryz.func3
    (ChangeSpec.witness6 (enc:=enc) (C:=Tryz.checked) false ⟨#[],#[.int .i64 0,.slice none 0 0],[]⟩ 8 (by kernel_rfl) (by kernel_rfl) (by kernel_rfl) (by kernel_rfl)) ?_
  intro W base args ds gs before hval hW hcnd _ hsh _;refine Ov (P:=Tryz.prog) (ss:=[(.int .i64),(.slice 9 .str)]) (tr:=4) Tryz.laidOut rfl ?_ rfl (by kernel_rfl) (H4 _ _ (by kernel_rfl)) ?_ UM (We hsh) hval hW
  · intro t ht
    have ht:t∈[3,22]:=ht;simp only[List.mem_cons,List.not_mem_nil,or_false] at ht;rcases ht with rfl | rfl
    · exact⟨by kernel_rfl,of_decide_eq_true (by kernel_rfl)⟩
    · exact⟨by kernel_rfl,of_decide_eq_true (by kernel_rfl)⟩
  · intro ds hds
    match ds,hds with
    | [d0,d1],_=>rfl

theorem serverNew_holds :Rows.FnExactServerNewSaid:=
  OpenClaim.holds_of_wide 3 Tryz.f3 rfl rfl rfl rfl rfl rfl rfl ⟨rfl,rfl,rfl,rfl,rfl⟩ rfl rfl rfl rfl rfl (by kernel_rfl) Tryz.func3 jfA
    (of_decide_eq_true (by kernel_rfl)) (by unfold Func.isWrapper;rw[if_neg (by decide +kernel)];exact⟨rfl,rfl⟩)
    (λos started H enc _=>OQ os started H enc)

#print axioms serverNew_holds
end Go.Proofs.YtghokbigemmaaaaGreat

/- Lemmas and walks for FnExactServerNew: what each function of the program and of the reference comes to. -/
import Derived.Test.YtghokbigemmaaaaGreatAvs
import Derived.Laws.StructEq
import Derived.Deep.MidRow
import Derived.Laws.MakeOwn
open Option renaming some→aaQ,map_some→ab2,map_none→ach
open Bool renaming and_eq_true→aaR,false_eq_true→acd
open List renaming getElem?_eq_some_iff→aaZ,length_take→aa1,getElem?_eq_getElem→aa7,take→aa8,drop→abi,length_drop→abo,mem_of_getElem?→abx,getElem?_take→abz,flatten_cons→abD,eq_nil_of_length_eq_zero→abJ,take_succ_cons→acj
open Nat renaming zero_add→abj,zero_mul→ab0,succ_mul→ab7,add_assoc→aco
namespace Go.Av
open Go Go.RowKit
set_option linter.unusedVariables false
set_option linter.unusedSimpArgs false
def gS :PV->Value
 | .int k n=>.int k n
 | .bool b=>.bool b
 | .str s=>.string s
 | _=>undef
def Ah :PV->Bool
 | .int _ _ | .bool _ | .str _=>true
 | _=>false
theorem pX :∀{z l:List PV},fP z l=true->l.length=z.length
 | [],[],_=>rfl
 | c::z,d::l,h=>by simp only[fP,aaR] at h;simp[pX h.2]
 | [],_::_,h=>by cases h
 | _::_,[],h=>by cases h
theorem yi :∀{z l:List PV} (n:Nat),fP z l=true->fP (z.take n) (l.take n)=true
 | _,_,0,_=>by simp[fP]
 | [],[],n+1,_=>rfl
 | c::z,d::l,n+1,h=>by simp only[fP,aaR,acj] at h ⊢;exact⟨h.1,yi n h.2⟩
 | [],_::_,_+1,h=>by cases h
 | _::_,[],_+1,h=>by cases h
theorem yj :∀{z l:List PV} (n:Nat),fP z l=true->fP (z.drop n) (l.drop n)=true
 | _,_,0,h=>h
 | [],[],n+1,_=>rfl
 | c::z,d::l,n+1,h=>by simp only[fP,aaR,List.drop_succ_cons] at h ⊢;exact yj n h.2
 | [],_::_,_+1,h=>by cases h
 | _::_,[],_+1,h=>by cases h
theorem Ai :∀{a a' b b':List PV},a.length=a'.length->dH (a++b) (a'++b')=(dH a a' && dH b b')
 | [],[],_,_,_=>by simp[dH]
 | c::a,d::a',b,b',h=>by
  simp only[List.cons_append,dH,Ai (a:=a) (a':=a') (by simpa using h),Bool.and_assoc]
 | [],_::_,_,_,h=>by simp at h
 | _::_,[],_,_,h=>by simp at h
mutual
def BR (P:Program):Nat->TypeId->List PV->Bool
  | 0,_,_=>false
  | n+1,t,zs=>match P.underlying t with
    | some (.int k)=>match zs with | [.int k' _]=>BO k k' | _=>false
    | some .bool=>match zs with | [.bool _]=>true | _=>false
    | some .string=>match zs with | [.str _]=>true | _=>false
    | some (.struct fs)=> !P.stoodInHeld t && BS P n fs.toList 0 zs
    | _=>false
def BS (P:Program):Nat->List Field->Nat->List PV->Bool
  | _,[],_,zs=>zs.isEmpty
  | 0,_::_,_,_=>false
  | n + 1, f :: fs, off, zs => f.name != "_" && nq f.offset off && (match P.info? f.type with
    | some i=>zT i.size zs.length && BR P n f.type (zs.take i.size) && BS P n fs (off+i.size) (zs.drop i.size)
    | none=>false)
end
def isStr (P:Program)(t:TypeId):Bool:=match P.underlying t with | some (.struct _)=>true | _=>false
def valOf (P:Program)(t:TypeId)(l:List PV):Value:=match isStr P t with | true=>.agg (l.map gS).toArray | false=>gS (bM l 0)
def YS (P:Program)(t:TypeId)(zs:List PV)(n:Nat):Prop:=∀(d:Nat) (w:World) (l l':List PV),n<=d->fP zs l=true->fP zs l'=true->(Op.equalIn d t (valOf P t l) (valOf P t l')).run P w=.ok (dH l l') w
theorem one_cell {z:PV}{l:List PV}(h:fP [z] l=true):∃ c,l=[c]/\nR z c=true:=by
 cases l with
 | nil=>cases h
 | cons c l=>
  cases l with
  | nil=>simp only[fP,aaR] at h;exact⟨c,rfl,h.1⟩
  | cons d l=>simp[fP] at h
mutual
theorem J9 {P:Program}:∀(n:Nat) (t:TypeId) (zs:List PV),BR P n t zs=true->YS P t zs n
 | 0,_,_,h=>by cases h
 | n+1,t,zs,h=>by
  intro d w l l' hd hl my
  obtain⟨d,rfl⟩:∃ e,d=e+1:=⟨d - 1,by omega⟩
  unfold BR at h
  split at h
  ·rename_i k hu
   split at h
   ·rename_i k' m
    obtain⟨c,rfl,hc⟩:=one_cell hl
    obtain⟨c',rfl,mz⟩:=one_cell my
    have hs:isStr P t=false:=by simp[isStr,hu]
    cases c<;>simp[nR] at hc
    cases c'<;>simp[nR] at mz
    have e1:=of_decide_eq_true hc
    have e2:=of_decide_eq_true mz
    subst e1;subst e2
    simp only[valOf,hs,bM,gS,dH,kQ,Bool.and_true]
    exact run_equalIn_int w d t _ _ _ _ hu
   cases h
  ·rename_i hu
   split at h
   ·obtain⟨c,rfl,hc⟩:=one_cell hl
    obtain⟨c',rfl,mz⟩:=one_cell my
    have hs:isStr P t=false:=by simp[isStr,hu]
    cases c<;>simp[nR] at hc
    cases c'<;>simp[nR] at mz
    simp only[valOf,hs,bM,gS,dH,kQ,Bool.and_true]
    exact run_equalIn_bool' w d t _ _ hu
   cases h
  ·rename_i hu
   split at h
   ·obtain⟨c,rfl,hc⟩:=one_cell hl
    obtain⟨c',rfl,mz⟩:=one_cell my
    have hs:isStr P t=false:=by simp[isStr,hu]
    cases c<;>simp[nR] at hc
    cases c'<;>simp[nR] at mz
    simp only[valOf,hs,bM,gS,dH,kQ,Bool.and_true]
    exact run_equalIn_string w d t _ _ hu
   cases h
  ·rename_i fs hu
   simp only[aaR,Bool.not_eq_true'] at h
   have hs:isStr P t=true:=by simp[isStr,hu]
   have hf:P.fieldsOf t=fs:=by simp[Program.fieldsOf,hu]
   simp only[valOf,hs]
   rw[run_equalIn_struct w d t _ _ (by rw[hf];exact hu) h.1,hf]
   have:=Ka n fs.toList 0 zs h.2 d w l l' (by omega) (by simpa using hl) (by simpa using my)
   simpa using this
  cases h
theorem Ka {P:Program}:∀(n:Nat) (fs:List Field) (off:Nat) (zs:List PV),BS P n fs off zs=true->∀(d:Nat) (w:World) (l l':List PV),n<=d->fP zs (l.drop off)=true->fP zs (l'.drop off)=true->
  (Op.eqFields d (l.map gS).toArray (l'.map gS).toArray fs).run P w=.ok (dH (l.drop off) (l'.drop off)) w
 | n,[],off,zs,h,d,w,l,l',hd,hl,my=>by
  have hz:zs=[]:=by simpa [BS] using h
  subst hz
  have e1:l.drop off=[]:=abJ (pX hl)
  have e2:l'.drop off=[]:=abJ (pX my)
  rw[e1,e2]
  simp[Op.eqFields,dH]
 | 0,_::_,_,_,h,_,_,_,_,_,_,_=>by simp[BS] at h
 | n+1,f::fs,off,zs,h,d,w,l,l',hd,hl,my=>by
  simp only[BS,aaR] at h
  obtain⟨⟨h1,h2⟩,h3⟩:=h
  split at h3
  case h_2=>cases h3
  rename_i i hi
  simp only[aaR] at h3
  obtain⟨⟨hsz,h4⟩,h5⟩:=h3
  have hsz:=wZ hsz
  have h2:=eZ h2
  have hname : f.name ≠ "_" := by simpa using h1
  have hll:=pX hl
  have aad:=pX my
  have head:=J9 n f.type (zs.take i.size) h4 d w ((l.drop off).take i.size) ((l'.drop off).take i.size) (by omega) (yi _ hl) (yi _ my)
  have rest:=Ka n fs (off+i.size) (zs.drop i.size) h5 d w l l' (by omega) (by rw[<- List.drop_drop];exact yj _ hl) (by rw[<- List.drop_drop];exact yj _ my)
  have hpart:∀ m:List PV,fP zs (m.drop off)=true->(part f.type (m.map gS).toArray f.offset).run P w=.ok (valOf P f.type ((m.drop off).take i.size)) w:=by
   intro m hm
   have hml:=pX hm
   simp only[abo] at hml
   have hstruct:∀ gs,P.underlying f.type=some (.struct gs)->(part f.type (m.map gS).toArray f.offset).run P w=.ok (valOf P f.type ((m.drop off).take i.size)) w:=by
    intro gs hu
    have hag:(isAgg f.type).run P w=.ok true w:=by simp[isAgg,run_underlying hu]
    have hs:isStr P f.type=true:=by simp[isStr,hu]
    have hex:(m.map gS).toArray.extract f.offset (f.offset+i.size)=(((m.drop off).take i.size).map gS).toArray:=by
     apply Array.ext'
     simp only[Array.toList_extract,List.extract_eq_take_drop,h2]
     rw[<- List.map_drop,<- List.map_take]
     congr 2
     omega
    simp only[part,Sem.run_bind,hag,Result.andThen_ok,if_true,sizeOf,typeInfo,hi,Sem.run_pure,program,Sem.run,valOf,hs,hex]
   have hone:∀ k,P.underlying f.type=some k->(∀ gs,k≠ .struct gs)->(∀ a b,k≠ .array a b)->(∃ z,zs.take i.size=[z])->(part f.type (m.map gS).toArray f.offset).run P w=.ok (valOf P f.type ((m.drop off).take i.size)) w:=by
    intro k hu hns hna ⟨z,hz⟩
    have hag:(isAgg f.type).run P w=.ok false w:=by
     simp only[isAgg,Sem.run_bind,run_underlying hu,Result.andThen_ok]
     cases k<;>first | rfl | exact absurd rfl (hns _) | exact absurd rfl (hna _ _)
    have hs:isStr P f.type=false:=by
     simp only[isStr,hu]
     cases k<;>first | rfl | exact absurd rfl (hns _)
    have nX:(zs.take i.size).length=1:=by rw[hz];rfl
    simp only[aa1] at nX
    have hlt:off < m.length:=by omega
    have hget:(m.map gS).toArray[f.offset]? =some (gS (bM ((m.drop off).take i.size) 0)):=by
     rw[h2,List.getElem?_toArray,List.getElem?_map,aa7 hlt,List.drop_eq_getElem_cons hlt]
     obtain⟨s,Mu⟩:∃ s,i.size=s+1:=⟨i.size - 1,by omega⟩
     rw[Mu,acj]
     rfl
    simp only[part,Sem.run_bind,hag,Result.andThen_ok,acd,if_false,hget,Sem.run_pure,valOf,hs]
   cases n with
   | zero=>cases h4
   | succ n=>
    unfold BR at h4
    split at h4
    ·rename_i k hu
     split at h4
     ·rename_i k' m' hz;exact hone _ hu (λ_ h=>by cases h) (λ_ _ h=>by cases h) ⟨_,hz⟩
     cases h4
    ·rename_i hu
     split at h4
     ·rename_i b hz;exact hone _ hu (λ_ h=>by cases h) (λ_ _ h=>by cases h) ⟨_,hz⟩
     cases h4
    ·rename_i hu
     split at h4
     ·rename_i b hz;exact hone _ hu (λ_ h=>by cases h) (λ_ _ h=>by cases h) ⟨_,hz⟩
     cases h4
    ·rename_i gs hu;exact hstruct gs hu
    cases h4
  simp only[Op.eqFields]
  rw[if_pos hname]
  simp only[Sem.run_bind,hpart l hl,hpart l' my,Result.andThen_ok,head]
  have Eo:∀ m:List PV,m.drop off=(m.drop off).take i.size++m.drop (off+i.size):=λm=>by rw[<- List.drop_drop,List.take_append_drop]
  rw[Eo l,Eo l',Ai (by simp only[aa1,abo] at hll aad ⊢;omega)]
  have e1:(aa8 i.size (abi off l)++abi (off+i.size) l)=abi off l:=(Eo l).symm
  have e2:(aa8 i.size (abi off l')++abi (off+i.size) l')=abi off l':=(Eo l').symm
  rw[e1,e2]
  cases dH ((l.drop off).take i.size) ((l'.drop off).take i.size) with
  | false=>simp
  | true=>simp[rest]
end
def Mv (P:Program)(t:TypeId)(zs:List PV):Prop:=∀(w:World) (l l':List PV),fP zs l=true->fP zs l'=true->(Op.equal t (.agg (l.map gS).toArray) (.agg (l'.map gS).toArray)).run P w=.ok (dH l l') w
theorem RX {P:Program}{t:TypeId}{zs:List PV}(hs:isStr P t=true)(h:BR P 20 t zs=true):Mv P t zs:=by
 intro w l l' hl my
 have:=J9 20 t zs h Op.maxDepth w l l' (by decide) hl my
 unfold Op.equal
 simpa only[valOf,hs] using this
theorem Aj :∀{z l:List PV},fP z l=true->∀ c∈l,Ah c=true
 | [],[],_,c,hc=>by simp at hc
 | z::zs,d::l,h,c,hc=>by
  simp only[fP,aaR] at h
  rcases List.mem_cons.1 hc with rfl | hc
  ·cases z<;>cases c<;>simp[nR] at h<;>rfl
  exact Aj h.2 c hc
 | [],_::_,h,_,_=>by cases h
 | _::_,[],h,_,_=>by cases h
def AH (P:Program)(t:TypeId)(z:List PV):TK->Prop
 | .int k=>P.underlying t=some (.int k)
 | .bool=>P.underlying t=some .bool
 | .str=>P.underlying t=some .string
 | .slice e=>P.underlying t=some (.slice e)
 | .struct fs fl one=>∃ fields:Array Field,P.underlying t=some (.struct fields)/\fields.toList.mapM (λf=>(P.info? f.type).map λi=>(f.offset,i.size))=some fs/\(fl=true->P.eqGuardType P.depth t=false/\Mv P t z)/\(∀(k:Nat) (fd:Field),one[k]? =some true->fields.toList[k]? =some fd->(∃ e,P.underlying fd.type=some (.slice e))\/∃ k,P.underlying fd.type=some (.int k))
 | .other=>∃ e,P.underlying t=some (.pointer e)
theorem Di {P:Program}:∀(l:List Field) (fs:List (Nat × Nat)),l.mapM (λf=>(P.info? f.type).map λi=>(f.offset,i.size))=some fs->∀(k off sz:Nat),fs[k]? =some (off,sz)->
  ∃(fd:Field) (inf:TypeInfo),l[k]? =some fd/\fd.offset=off/\P.info? fd.type=some inf/\inf.size=sz
 | [],fs,h,k,off,sz,hk=>by simp at h;subst h;simp at hk
 | f::l,fs,h,k,off,sz,hk=>by
  simp only[List.mapM_cons,Option.bind_eq_bind,Option.pure_def] at h
  cases hi:P.info? f.type with
  | none=>simp[hi] at h
  | some inf=>
   cases hr:l.mapM (λf=>(P.info? f.type).map λi=>(f.offset,i.size)) with
   | none=>simp[hi,hr] at h
   | some rest=>
    simp[hi,hr] at h
    subst h
    cases k with
    | zero=>simp at hk;exact⟨f,inf,by simp,hk.1,hi,hk.2⟩
    | succ k=>simpa using Di l rest hr k off sz (by simpa using hk)
def Kz (P:Program)(t:TypeId)(i:TI):Prop:=
 ∃ inf z,P.info? t=some inf/\inf.size=i.size/\inf.bytes=i.bytes/\inf.zero=some z/\(∀ w I,bE w I i.zero z.cells.toList bf)/\i.zero.length=i.size/\(i.kind=.other\/eK bG i.zero=true)/\AH P t i.zero i.kind
def fa (P:Program)(T:dA):Prop:=∀ t i,T t=some i->Kz P t i
theorem fH {w:World}{I:Ft}{c:PV}{v:Value}{F F':Ft}(hl:bG c=true)(h:dj w I c v F):dj w I c v F':=by
 cases h with
 | int k n F=>exact .int k n _
 | bool b F=>exact .bool b _
 | str s F=>exact .str s _
 | zc F=>exact .zc _
 | raw v F h1=>simp[bG] at hl
 | aa v F h1=>simp[bG] at hl
 | slnil sz F=>exact .slnil sz _
 | sl sz rows a cap vs F hu hb hs hc hr hcap=>exact .sl sz rows a cap vs _ hu hb hs hc hr hcap
 | ow sz rows v e xs F G hu how hr hG hb=>simp[bG] at hl
def sI (w:World)(I:Ft)(val:Nat->Value)(bl:List (Nat × aO))(cs:List PV)(vs:List Value):Prop:=
 vs.length=cs.length/\∀(k:Nat) (c:PV) (u:Value),cs[k]? =some c->vs[k]? =some u->fY c=true->bI w I val bl c u
section
variable {w : World} {I : Ft} {val : Nat -> Value} {bl : List (Nat × aO)}
theorem aG.Dj :∀{l:List PV} {vs:List Value},aG w I val bl l vs->∀(k:Nat) {c:PV} {u:Value},l[k]? =some c->vs[k]? =some u->bI w I val bl c u
 | _,_,.nil,k,_,_,h,_=>by simp at h
 | _,_,.cons c l v vs h t,0,_,_,h1,h2=>by simp at h1 h2;subst h1;subst h2;exact h
 | _,_,.cons c l v vs h t,k+1,_,_,h1,h2=>t.Dj k (by simpa using h1) (by simpa using h2)
theorem bE.Dj :∀{l:List PV} {vs:List Value} {F:Ft},bE w I l vs F->∀(k:Nat) {c:PV} {u:Value},l[k]? =some c->vs[k]? =some u->∃ G,dj w I c u G
 | _,_,_,.nil _,k,_,_,h,_=>by simp at h
 | _,_,_,.cons c l v vs F G H h t _ _ _,0,_,_,h1,h2=>by simp at h1 h2;subst h1;subst h2;exact⟨_,h⟩
 | _,_,_,.cons c l v vs F G H h t _ _ _,k+1,_,_,h1,h2=>t.Dj k (by simpa using h1) (by simpa using h2)
theorem aG.two {l:List PV}{vs:List Value}(h:aG w I val bl l vs):sI w I val bl l vs:=⟨h.len,λk c u h1 h2 _=>h.Dj k h1 h2⟩
theorem HV {c:PV}{v:Value}{F:Ft}(hsl:fY c=true)(h:dj w I c v F):bI w I val bl c v:=by
 cases h with
 | int k n F=>exact .leaf _ _ rfl (.int k n _)
 | bool b F=>exact .leaf _ _ rfl (.bool b _)
 | str s F=>exact .leaf _ _ rfl (.str s _)
 | zc F=>exact .leaf _ _ rfl (.zc _)
 | raw v F h1=>simp[fY] at hsl
 | aa v F h1=>simp[fY] at hsl
 | slnil sz F=>exact .leaf _ _ rfl (.slnil sz _)
 | sl sz rows a cap vs F hu hb hs hc hr hcap=>exact .leaf _ _ rfl (.sl sz rows a cap vs _ hu hb hs hc hr hcap)
 | ow sz rows v e xs F G hu how hr hG hb=>simp[fY] at hsl
theorem bE.two {l:List PV}{vs:List Value}{F:Ft}(h:bE w I l vs F):sI w I val bl l vs:=
 ⟨h.len,λk c u h1 h2 hs=>by obtain⟨G,hG⟩:=h.Dj k h1 h2;exact HV hs hG⟩
theorem sI.drop {l:List PV}{vs:List Value}(h:sI w I val bl l vs)(j:Nat):sI w I val bl (l.drop j) (vs.drop j):=by
 refine⟨by simp[h.1],λk c u h1 h2 hs=>h.2 (j+k) c u ?_ ?_ hs⟩
 ·simpa using h1
 simpa using h2
theorem EE :∀(n:Nat) (l r:List PV),BN n l=some r->r=l.take n/\n<=l.length
 | 0,l,r,h=>by simp[BN] at h;simp[<- h]
 | n+1,[],r,h=>by simp[BN] at h
 | n+1,c::l,r,h=>by
  simp only[BN] at h
  split at h
  ·rename_i r' nT
   obtain⟨rfl,hle⟩:=EE n l r' nT
   simp at h
   subst h
   exact⟨by simp,by simp;omega⟩
  simp at h
theorem aG.P9 :∀{l:List PV} {vs:List Value},sI w I val bl l vs->eK fY l=true->aG w I val bl l vs
 | [],[],_,_=>.nil
 | [],_::_,h,_=>by have:=h.1;simp at this
 | _::_,[],h,_=>by have:=h.1;simp at this
 | c::l,v::vs,h,ha=>by
  simp only[eK,aaR] at ha
  refine .cons c l v vs (h.2 0 c v (by simp) (by simp) ha.1) (aG.P9 ⟨by simpa using h.1,λk c' u h1 h2 hs=>h.2 (k+1) c' u (by simpa using h1) (by simpa using h2) hs⟩ ha.2)
theorem sI.take {l:List PV}{vs:List Value}(h:sI w I val bl l vs)(n:Nat):sI w I val bl (l.take n) (vs.take n):=by
 refine⟨by simp[h.1],λk c u h1 h2 hs=>?_⟩
 rw[abz] at h1 h2
 split at h1
 ·rename_i hk;rw[if_pos hk] at h2;exact h.2 k c u h1 h2 hs
 cases h1
theorem AH.agg {P:Program}{t:TypeId}{i:TI}{z:List PV}(h:AH P t z i.kind)(w:World):(isAgg t).run P w=.ok i.isAgg w:=by
 unfold isAgg TI.isAgg
 rw[Sem.run_bind]
 revert h
 cases i.kind<;>intro h<;>simp only[AH] at h
 ·rw [run_underlying h w];rfl
 ·rw [run_underlying h w];rfl
 ·rw [run_underlying h w];rfl
 ·rw [run_underlying h w];rfl
 ·obtain⟨fields,h,_⟩:=h;rw[run_underlying h w];rfl
 obtain⟨e,h⟩:=h;rw[run_underlying h w];rfl
theorem qG {P:Program}{t:TypeId}{i:TI}(hT:Kz P t i){a:Addr}{cs:List PV}{vs:List Value}{v:PV}
  (hc:∀(j:Nat) (u:Value),vs[j]? =some u->w.cell? (a.add j)=some u) (hR:sI w I val bl cs vs) (hl:xa i cs=some v):
  ∃ x,(loadVar t a).run P w=.ok x w/\bI w I val bl v x:=by
 obtain⟨inf,z,hi,hsz,hby,hz,_,_,_,hk⟩:=hT
 unfold loadVar
 rw[Sem.run_bind,hk.agg w,Result.andThen_ok]
 unfold xa at hl
 split at hl
 ·rename_i hag
  rw[hag]
  simp only[if_true]
  split at hl
  ·rename_i r hr
   obtain⟨rfl,hle⟩:=EE _ _ _ hr
   cases hall:eK fY (cs.take i.size) with
   | false=>simp[hall] at hl
   | true=>
    simp only[hall,cond_true,aaQ.injEq] at hl
    subst hl
    have hlen:(vs.take i.size).length=i.size:=by simp[hR.1];omega
    have hrun:=run_loadCells_list (P:=P) w a (vs.take i.size) (λj u hj=>hc j u (by rw[abz] at hj;split at hj;exact hj;cases hj))
    rw[hlen] at hrun
    refine⟨.agg (vs.take i.size).toArray,?_,.agg _ _ (aG.P9 (hR.take _) hall)⟩
    simp only[Sem.run_bind,sizeOf,typeInfo,hi,hsz,Sem.run_pure,Result.andThen_ok,program,Sem.run,hrun]
  cases hl
 rename_i hag
 rw[hag]
 simp only[acd,if_false]
 split at hl
 ·rename_i c l
  cases hsb:fY c with
  | false=>simp[hsb] at hl
  | true=>
   simp only[hsb,cond_true,aaQ.injEq] at hl
   subst hl
   cases vs with
   | nil=>have:=hR.1;simp at this
   | cons u vs=>
    have h0:a.add 0=a:=by simp[Addr.add]
    have hcell:=hc 0 u (by simp)
    rw[h0] at hcell
    exact⟨u,by simp[load,Sem.run,hcell],hR.2 0 c u (by simp) (by simp) hsb⟩
 cases hl
theorem flat_get {sz:Nat}:∀(rows:List (List PV)),(∀ r∈rows,r.length=sz)->∀(a:Nat) (r:List PV),rows[a]? =some r->∀(k:Nat),k < r.length->rows.flatten[a * sz+k]? =r[k]?
 | [],_,a,r,h,_,_=>by simp at h
 | r0::rows,hu,0,r,h,k,hk=>by
  simp at h
  subst h
  simp only[abD,ab0,abj]
  rw[List.getElem?_append_left hk]
 | r0::rows,hu,a+1,r,h,k,hk=>by
  have hl:r0.length=sz:=hu r0 (by simp)
  simp only[abD]
  rw[List.getElem?_append_right (by rw[hl,ab7];omega)]
  rw[show(a+1) * sz+k - r0.length=a * sz+k by rw[hl,ab7];omega]
  exact flat_get rows (λr hr=>hu r (by simp[hr])) a r (by simpa using h) k hk
theorem row_one {α:Type}{x r:α}{a:Nat}(h:[x][a]? =some r):a=0/\r=x:=by
 cases a with
 | zero=>simp at h;exact⟨rfl,h.symm⟩
 | succ a=>simp at h
theorem MJ {b:aO}{v:Value}{F:Ft}{a g:Nat}{r:List PV}(hB:iU w I val bl b v F)(hr:b.rows[a]? =some r)(hg:jJ v=some g):
    ∃ vs,(∀(k:Nat) (u:Value),vs[k]? =some u->w.cell? ⟨g,a * b.sz+k,none⟩=some u)/\sI w I val bl r vs:=by
  have one:∀(sz g':Nat) (r0:List PV),mg w I val bl sz r0 g' F->[r0][a]? =some r->g'=g->
      ∃ vs,(∀(k:Nat) (u:Value),vs[k]? =some u->w.cell? ⟨g,a * sz+k,none⟩=some u)/\sI w I val bl r vs:=by
    intro sz g' r0 hc hr he
    obtain⟨rfl,rfl⟩:=row_one hr
    subst he
    obtain⟨T,c,_,hh,hs,_,_⟩:=hc
    refine⟨c.toList,λk u hk=>?_,hs.two⟩
    rw[ab0,abj,cell_of_row w g' k c T (0,0) hh]
    simpa using hk
  obtain⟨k,sz,rows⟩:=b
  cases k with
  | var=>
    match rows,hB,hr with
    | [r0],hB,hr=>
      obtain⟨g',rfl,hc⟩:=hB
      simp[jJ] at hg
      exact one sz g' r0 hc hr hg
  | lit=>
    match rows,hB,hr with
    | [r0],hB,hr=>
      obtain⟨g',rfl,_,hc⟩:=hB
      simp[jJ] at hg
      exact one sz g' r0 hc hr hg
  | mul=>
    match rows,hB,hr with
    | [r0],hB,hr=>
      obtain⟨g',rfl,_,hc⟩:=hB
      simp[jJ] at hg
      obtain⟨vs,h1,h2⟩:=one _ g' r0 hc hr hg
      obtain⟨rfl,rfl⟩:=row_one hr
      exact⟨vs,λk u hk=>by have:=h1 k u hk;rwa [ab0] at this ⊢,h2⟩
  | arr=>
    obtain⟨e,xs,G,hu,how,hR,_,_⟩:=hB
    have hlen:r.length=sz:=hu r (abx hr)
    have hob:v.ownBlock=some g:=by
      rcases how.2 with ⟨rfl,hn⟩ | ⟨g',cap,cur,rfl,_⟩
      · simp[jJ] at hg
      · simpa [jJ,Value.ownBlock] using hg
    have hxl:=hR.len
    refine⟨(xs.drop (a * sz)).take sz,λk u hk=>?_,?_,λk c u h1 h2 hs=>?_⟩
    · rw[abz] at hk
      split at hk
      · have:=how.cells hob (a * sz+k) u (by simpa using hk)
        rwa [Addr.add_mid,abj] at this
      · cases hk
    · have ha:a < rows.length:=(aaZ.1 hr).1
      have hx:=how.1
      have:(a+1) * sz<=rows.length * sz:=Nat.mul_le_mul_right _ ha
      rw[ab7] at this
      simp[hlen];omega
    · have hk:k < r.length:=(aaZ.1 h1).1
      rw[abz] at h2
      split at h2
      · obtain⟨G',CB⟩:=hR.Dj (a * sz+k) (by rw[flat_get rows hu a r hr k hk];exact h1) (by simpa using h2)
        exact HV hs CB
      · cases h2
end
section
variable {P : Program} {T : dA} {B : Ft} {W0 : World} {I0 : Ft} {I : Ft} {val : Nat -> Value} {fs : Nat -> Ft} {σ aA : St} {a : Act} {w : World} {o : Oper}
def fR (P:Program)(B:Ft)(W0:World)(I0:Ft)(o:Oper)(a:Act)(w:World)(aA:St):Prop:=
 ∃ v w',((execOp a.eval o).run P w=.ok (.value v) w'\/((execOp a.eval o).run P w=.ok .skip w'/\v=undef))/\eo B W0 I0 aA (a.put o.dst v) w'
theorem fR.wp (h:fR P B W0 I0 o a w aA){next:Act->World->Prop}{Q:Exit->Act->World->Prop}(hn:∀ a' w',eo B W0 I0 aA a' w'->next a' w'):o.wp P a w next Q:=by
 obtain⟨v,w',h | ⟨h,rfl⟩,hs⟩:=h
 ·unfold Oper.wp;rw[h];exact hn _ _ hs
 unfold Oper.wp;rw[h];exact hn _ _ hs
theorem bz.value (h:bz B W0 I0 I val fs σ a w){c:PV}{v:Value}(hr:(execOp a.eval o).run P w=.ok (.value v) w)(hc:bI w I val σ.bl c v):fR P B W0 I0 o a w (σ.put o.dst c):=
 ⟨v,w,.inl hr,I,val,fs,h.put o.dst hc⟩
theorem Hu (h:bz B W0 I0 I val fs σ a w){x:Operand}(ho:o.op=.move x\/o.op=.assign x):fR P B W0 I0 o a w (σ.put o.dst (σ.get x)):=
 h.value (v:=a.eval x) (by rcases ho with ho | ho<;>simp[execOp,ho,Sem.run]) (h.eval x)
theorem pH {t:Bool}{v:Value}{bl:List (Nat × aO)}(h:bI w I val bl (.bool t) v):v=.bool t:=by
 cases h with
 | leaf c v hl h=>cases h;rfl
theorem eO {k:IntKind}{n:Int}{v:Value}{bl:List (Nat × aO)}(h:bI w I val bl (.int k n) v):v=.int k n:=by
 cases h with
 | leaf c v hl h=>cases h;rfl
theorem nw {s:ByteArray}{v:Value}{bl:List (Nat × aO)}(h:bI w I val bl (.str s) v):v=.string s:=by
 cases h with
 | leaf c v hl h=>cases h;rfl
theorem Pz (h:bz B W0 I0 I val fs σ a w){c x y:Operand}(ho:o.op=.pick c x y){t:Bool}(hc:σ.get c=.bool t):fR P B W0 I0 o a w (σ.put o.dst (bif t then σ.get x else σ.get y)):=by
 have e:=h.eval c
 rw[hc] at e
 have e:=pH e
 cases t
 ·exact h.value (v:=a.eval y) (by simp[execOp,ho,e,asBool]) (h.eval y)
 exact h.value (v:=a.eval x) (by simp[execOp,ho,e,asBool]) (h.eval x)
theorem RV (h:bz B W0 I0 I val fs σ a w){t0:TypeId}{x:Operand}(ho:o.op=.unOp .not t0 x){t:Bool}(hx:σ.get x=.bool t):fR P B W0 I0 o a w (σ.put o.dst (.bool !t)):=by
 have e:=h.eval x
 rw[hx] at e
 have e:=pH e
 exact h.value (v:=.bool !t) (by simp[execOp,ho,e,Op.unary]) (.leaf _ _ rfl (.bool _ _))
theorem J6 (h:bz B W0 I0 I val fs σ a w){x:Operand}{n:Nat}(ho:o.op=.extract x n){vs:List PV}(hx:σ.get x=.aw vs)(hn:n < vs.length):fR P B W0 I0 o a w (σ.put o.dst (bM vs n)):=by
 have e:=h.eval x
 rw[hx] at e
 generalize hv:a.eval x=v at e
 cases e with
 | leaf c v hl h=>cases hl
 | aw cs us hu=>
  have hl:=hu.len
  refine h.value (v:=us.getD n undef) ?_ (hu.get n undef)
  simp[execOp,ho,hv,Instr.extract,List.getD,aa7 (show n < us.length by omega)]
theorem I5 (h:bz B W0 I0 I val fs σ a w){f:FuncId}{first caps:Array Operand}(ho:o.op=.makeFunc (.func f) first caps)(hf:first.toList=[]):
  fR P B W0 I0 o a w (σ.put o.dst (.fn f (caps.toList.map σ.get))):=by
 have J4:first=#[]:=by simpa using hf
 subst J4
 have hl:∀(l:List Operand),aG w I val σ.bl (l.map σ.get) (l.map a.eval):=by
  intro l
  induction l with
  | nil=>exact .nil
  | cons x l ih=>exact .cons _ _ _ _ (h.eval x) ih
 refine h.value (v:=.func (.func f) #[] (caps.toList.map a.eval).toArray) ?_ (.fn _ _ _ (hl _))
 cases caps;simp[execOp,ho,Instr.makeFunc]
theorem RW (hT:fa P T)(h:bz B W0 I0 I val fs σ a w){t:TypeId}{x:Operand}(ho:o.op=.call {callee:=.builtin .len,args:=#[x],argTypes:=#[t]})(hs:qm T σ o.dst t (σ.get x)=some aA):
    fR P B W0 I0 o a w aA:=by
  have hrun:∀ n:Nat,(Builtin.len_ #[t] o.type #[a.eval x]).run P w=.ok (.int .i64 n) w->aA=σ.put o.dst (.int .i64 n)->fR P B W0 I0 o a w aA:=by
    intro n hr he
    subst he
    refine h.value (v:=.int .i64 n) ?_ (.leaf _ _ rfl (.int _ _ _))
    simp[execOp,ho,resolve,invoke,builtin,hr]
  have e:=h.eval x
  unfold qm at hs
  split at hs
  · rename_i el sz Af z ht
    obtain⟨inf,z,hi,_,_,_,_,_,_,hk⟩:=hT _ _ ht
    have hk:P.underlying t=some (.slice el):=hk
    split at hs
    · rename_i d hx
      rw[hx] at e
      generalize hv:a.eval x=v at e
      cases e with
      | leaf c v hl h=>cases hl
      | own d b hb hkind=>
        rw[hb] at hs
        have hB:=h.blocks d b hb
        obtain⟨k,bsz,rows⟩:=b
        cases k with
        | var=>exact absurd rfl hkind
        | arr=>
          simp only[aaQ.injEq] at hs
          obtain⟨e',xs,G,_,how,_⟩:=hB
          refine hrun rows.length ?_ hs.symm
          rw[hv]
          rcases how.2 with ⟨h1,hn⟩ | ⟨g,cap,cur,h1,_⟩<;>rw[h1]<;>simp[Builtin.len_,run_underlying hk,goInt, *]
        | lit=>
          simp only[aaQ.injEq] at hs
          match rows,hB with
          | [r],hB=>
            obtain⟨g,h1,_⟩:=hB
            refine hrun 1 ?_ hs.symm
            rw[hv,h1]
            simp[Builtin.len_,run_underlying hk,goInt]
        | mul=>
          match rows,hB,hs with
          | [r],hB,hs=>
            simp only[aaQ.injEq] at hs
            obtain⟨g,h1,_⟩:=hB
            refine hrun r.length ?_ hs.symm
            rw[hv,h1]
            simp[Builtin.len_,run_underlying hk,goInt]
    · rename_i oS rows hx
      rw[hx] at e
      simp only[aaQ.injEq] at hs
      refine hrun rows.length ?_ hs.symm
      generalize hv:a.eval x=v at e
      cases e with
      | leaf c v hl h=>cases h<;>simp[Builtin.len_,run_underlying hk,goInt]
    · rename_i hx
      rw[hx] at e
      simp only[aaQ.injEq] at hs
      refine hrun 0 ?_ (by simpa using hs.symm)
      generalize hv:a.eval x=v at e
      cases e with
      | leaf c v hl h=>cases h<;>simp[Builtin.len_,run_underlying hk,goInt]
    · cases hs
  · rename_i sz Af z ht
    obtain⟨inf,z,hi,_,_,_,_,_,_,hk⟩:=hT _ _ ht
    have hk:P.underlying t=some .string:=hk
    split at hs
    · rename_i s hx
      rw[hx] at e
      simp only[aaQ.injEq] at hs
      refine hrun s.size ?_ hs.symm
      rw[nw e]
      simp[Builtin.len_,run_underlying hk,goInt]
    · cases hs
  · cases hs
theorem zd (h:bz B W0 I0 I val fs σ a w){x:Operand}(ho:o.op=.nilCheck x){c:PV}(hx:σ.get x=c)(hc:(∃ d i j,c=.pt d i j)\/∃ cs,c=.rd cs):fR P B W0 I0 o a w (σ.put o.dst c):=by
 have e:=h.eval x
 rw[hx] at e
 refine h.value (v:=a.eval x) ?_ e
 generalize hv:a.eval x=v at e
 rcases hc with ⟨d,i,j,rfl⟩ | ⟨cs,rfl⟩
 ·cases e with
  | leaf c v hl h=>cases hl
  | pt d i j b g hb hg=>simp[execOp,ho,hv]
 cases e with
 | leaf c v hl h=>cases hl
 | rd cs a vs hI hs hc hr=>simp[execOp,ho,hv]
theorem PA (hT:fa P T)(h:bz B W0 I0 I val fs σ a w){t:TypeId}{x:Operand}(ho:o.op=.load t x)(hs:ua T σ o.dst t (σ.get x)=some aA):fR P B W0 I0 o a w aA:=by
 have e:=h.eval x
 unfold ua at hs
 split at hs
 ·rename_i i ht
  have hF:=hT _ _ ht
  split at hs
  ·rename_i d r0 j hx
   rw[hx] at e
   generalize hv:a.eval x=v at e
   cases e with
   | leaf c v hl h=>cases hl
   | pt d i' j' b g hb hg=>
    rw[hb] at hs
    simp only at hs
    split at hs
    ·rename_i r hr
     split at hs
     ·rename_i v hl
      simp only[aaQ.injEq] at hs
      subst hs
      obtain⟨vs,hc,hR⟩:=MJ (h.blocks d b hb) hr hg
      obtain⟨y,hrun,hy⟩:=qG (P:=P) hF (a:=⟨g,r0 * b.sz+j,none⟩) (vs:=vs.drop j) (λk u hk=>by
       rw[Addr.add_mid,show r0 * b.sz+j+k=r0 * b.sz+(j+k) by omega]
       exact hc (j+k) u (by simpa using hk)) (hR.drop j) hl
      exact h.value (by simp[execOp,ho,hv,Instr.loadAt,Instr.sureAddr,hrun]) hy
     cases hs
    cases hs
  ·rename_i cs hx
   rw[hx] at e
   split at hs
   ·rename_i v hl
    simp only[aaQ.injEq] at hs
    subst hs
    generalize hv:a.eval x=v at e
    cases e with
    | leaf c v hl h=>cases hl
    | rd cs a0 vs hI ug hc hr=>
     obtain⟨y,hrun,hy⟩:=qG (P:=P) (val:=val) (bl:=σ.bl) hF hc hr.two hl
     exact h.value (by simp[execOp,ho,hv,Instr.loadAt,Instr.sureAddr,hrun]) hy
   cases hs
  cases hs
 cases hs
theorem Gb (hT:fa P T)(h:bz B W0 I0 I val fs σ a w){t:TypeId}{x:Operand}{f:Nat}(ho:o.op=.fieldAddr t x f)(hs:nt T σ o.dst t (σ.get x) f=some aA):fR P B W0 I0 o a w aA:=by
 have e:=h.eval x
 unfold nt at hs
 split at hs
 ·rename_i gP sz Af z ht
  obtain⟨inf,z,hi,_,_,_,_,_,_,fields,hu,hm,_⟩:=hT _ _ ht
  have hf:=λk off sz h=>(by obtain⟨fd,inf,h1,h2⟩:=Di _ _ hm k off sz h;exact⟨fd,inf,by simpa using h1,h2⟩:∃(fd:Field) (inf:TypeInfo),fields[k]? =some fd/\fd.offset=off/\P.info? fd.type=some inf/\inf.size=sz)
  split at hs
  ·rename_i off vl hfs
   obtain⟨fd,finf,hfd,hoff,hfi,hfsz⟩:=hf _ _ _ hfs
   cases hz:nq vl 0 with
   | true=>simp[hz] at hs
   | false=>
    have hne:¬ vl=0:=by intro h0;simp[h0] at hz
    simp only[hz,cond_false] at hs
    have place:∀ ad:Addr,(fieldPlace ad fd).run P w=.ok (ad.add off) w:=by
     intro ad
     simp[fieldPlace,sizeOf,typeInfo,hfi,hfsz,hne,hoff,program,Sem.run]
    split at hs
    ·rename_i d a0 j hx
     rw[hx] at e
     simp only[aaQ.injEq] at hs
     subst hs
     generalize hv:a.eval x=v at e
     cases e with
     | leaf c v hl h=>cases hl
     | pt d i' j' b g hb hg=>
      refine h.value (v:=.pointer (some ⟨g,a0 * b.sz+(j+off),none⟩)) ?_ (.pt d a0 (j+off) b g hb hg)
      simp[execOp,ho,hv,Instr.fieldAt,Instr.sureAddr,run_underlying hu,hfd,place,Addr.add_mid,aco]
    ·rename_i cs hx
     rw[hx] at e
     simp only[aaQ.injEq] at hs
     subst hs
     generalize hv:a.eval x=v at e
     cases e with
     | leaf c v hl h=>cases hl
     | rd cs a0 vs hI ug hc hr=>
      have hsp:(a0.add off).spot=none:=by unfold Addr.add;split<;>simp[ug]
      have hadd:∀ k,(a0.add off).add k=a0.add (off+k):=by
       intro k
       obtain⟨b0,o0,s0⟩:=a0
       simp at ug
       subst ug
       simp only[Addr.add_mid,aco]
      refine h.value (v:=.pointer (some (a0.add off))) ?_ (.rd (cs.drop off) (a0.add off) (vs.drop off) (λhne=>by rw[om];exact hI (λh0=>hne (by rw[h0];simp))) hsp
       (λk u hk=>by rw[hadd];exact hc (off+k) u (by simpa using hk)) (hr.drop off))
      simp[execOp,ho,hv,Instr.fieldAt,Instr.sureAddr,run_underlying hu,hfd,place]
    cases hs
  cases hs
 cases hs
theorem bE.take {w:World}{I:Ft}:∀{l:List PV} {vs:List Value} {F:Ft},bE w I l vs F->∀(k:Nat),bE w I (l.take k) (vs.take k) F
 | _,_,_,h,0=>by simpa using bE.nil _
 | _,_,_,.nil F,_+1=>.nil F
 | _,_,_,.cons c l v vs F G H h t hF hG d,k+1=>.cons c _ v _ F G H h (t.take k) hF hG d
theorem Sn {sz:Nat}{rows:List (List PV)}(hu:∀ r∈rows,r.length=sz){a:Nat}{r:List PV}(h:rows[a]? =some r):(rows.flatten.drop (a * sz)).take sz=r:=by
 have hl:=hu r (abx h)
 apply List.ext_getElem?
 intro k
 rw[abz,List.getElem?_drop]
 by_cases hk:k < r.length
 ·rw [if_pos (by omega),flat_get rows hu a r h k hk]
 rw[if_neg (by omega)]
 simp;omega
theorem bE.row {w:World}{I:Ft}{sz:Nat}{rows:List (List PV)}{vs:List Value}{F:Ft}(hR:bE w I rows.flatten vs F)(hu:∀ r∈rows,r.length=sz){a:Nat}{r:List PV}(h:rows[a]? =some r):
  bE w I r ((vs.drop (a * sz)).take sz) F:=by
 have:=(hR.drop (a * sz)).take sz
 rwa [Sn hu h] at this
theorem Gc (hT:fa P T)(h:bz B W0 I0 I val fs σ a w){t:TypeId}{x ix:Operand}(ho:o.op=.indexAddr t x ix)(hs:jB T σ o.dst t (σ.get x) (σ.get ix)=some aA):
    fR P B W0 I0 o a w aA:=by
  have e:=h.eval x
  have ei:=h.eval ix
  unfold jB at hs
  split at hs
  · rename_i el sz Af z ht
    obtain⟨inf,z,hi,_,_,_,_,_,_,hk⟩:=hT _ _ ht
    have hk:P.underlying t=some (.slice el):=hk
    split at hs
    · rename_i ie k n hte hix
      obtain⟨aaJ,_,VO,aaj,_⟩:=hT _ _ hte
      rw[hix] at ei
      have ei:=eO ei
      have hrun:∀(ad:Addr) (len cap:Nat),a.eval x=.slice (some ad) len cap->0<=n->n < len->(Instr.indexAt t (a.eval x) (a.eval ix)).run P w=.ok (.pointer (some (ad.add (n.toNat * ie.size)))) w:=by
        intro ad len cap hv h0 h1
        rw[hv,ei]
        have hiu:P.underlying t=some (.slice el):=hk
        simp[Instr.indexAt,asIntOf,run_underlying hiu,h0,h1,sizeOf,typeInfo,VO,aaj,program,Sem.run]
      split at hs
      · rename_i d hx
        rw[hx] at e
        generalize hv:a.eval x=v at e
        cases e with
        | leaf c v hl h=>cases hl
        | own d b hb hkind=>
          rw[hb] at hs
          have hB:=h.blocks d b hb
          by_cases hmul:b.k=.mul
          · obtain⟨bk,bsz,rows⟩:=b
            simp only at hmul
            subst hmul
            simp only at hs
            match rows,hB,hs with
            | [r],hB,hs=>
              simp only at hs
              split at hs
              · rename_i hcond
                simp only[aaR,decide_eq_true_eq] at hcond
                obtain⟨⟨h0,h1⟩,hbs⟩:=hcond
                have hbs:=eZ hbs
                simp only[aaQ.injEq] at hs
                subst hs
                obtain⟨g,hq,hone,_⟩:=hB
                have hr:=hrun ⟨g,0,none⟩ r.length r.length (hv.trans hq) h0 h1
                refine h.value (o:=o) (c:=.pt d 0 n.toNat) (v:=.pointer (some ((⟨g,0,none⟩:Addr).add (n.toNat * ie.size)))) (P:=P) (by simp[execOp,ho,hr]) ?_
                rw[Addr.add_mid,abj,<- hbs,hone,Nat.mul_one]
                have:=bI.pt (w:=w) (I:=I) (val:=val) (bl:=σ.bl) d 0 n.toNat ⟨.mul,bsz,[r]⟩ g hb (by rw[hq];rfl)
                simpa using this
              · cases hs
          have hs:(match decide (0<=n) && decide (n < b.rows.length) && nq b.sz ie.size with | true=>some (σ.put o.dst (.pt d n.toNat 0)) | false=>none)=some aA:=by
            obtain⟨bk,bsz,rows⟩:=b
            cases bk with
            | mul=>exact absurd rfl hmul
            | _=>exact hs
          split at hs
          · rename_i hcond
            simp only[aaR,decide_eq_true_eq] at hcond
            obtain⟨⟨h0,h1⟩,hbs⟩:=hcond
            have hbs:=eZ hbs
            simp only[aaQ.injEq] at hs
            subst hs
            have key:∃ g cap,val d=.slice (some ⟨g,0,none⟩) b.rows.length cap:=by
              obtain⟨bk,bsz,rows⟩:=b
              cases bk with
              | var=>exact absurd rfl hkind
              | arr=>
                obtain⟨e',xs,G,_,how,_⟩:=hB
                rcases how.2 with ⟨hq,hn⟩ | ⟨g,cap,cur,hq,_⟩
                · simp only at h1;omega
                · exact⟨g,cap,hq⟩
              | lit=>
                match rows,hB with
                | [r],hB=>
                  obtain⟨g,hq,_⟩:=hB
                  exact⟨g,1,hq⟩
              | mul=>exact absurd rfl hmul
            obtain⟨g,cap,hq⟩:=key
            have hr:=hrun ⟨g,0,none⟩ b.rows.length cap (hv.trans hq) h0 h1
            have hgo:=h.value (o:=o) (c:=.pt d n.toNat 0) (v:=.pointer (some ((⟨g,0,none⟩:Addr).add (n.toNat * ie.size)))) (P:=P) (by simp[execOp,ho,hr]) (by
              rw[Addr.add_mid,abj,<- hbs]
              exact .pt d n.toNat 0 b g hb (by rw[hq];rfl))
            exact hgo
          · cases hs
      · rename_i oS rows hx
        rw[hx] at e
        split at hs
        · rename_i hcond
          simp only[aaR,decide_eq_true_eq] at hcond
          obtain⟨h0,hbs⟩:=hcond
          have hbs:=eZ hbs
          split at hs
          · rename_i r hr
            simp only[aaQ.injEq] at hs
            subst hs
            have hlt:n.toNat < rows.length:=(aaZ.1 hr).1
            have hne:¬ rows=[]:=λh0=>by subst h0;simp at hlt
            generalize hv:a.eval x=v at e
            cases e with
            | leaf c v hl hR=>
              cases hR with
              | slnil=>simp at hlt
              | sl sz rows ad cap vs F hu hb aak hc nT hcap=>
                have ug:=aak hne
                have hrr:=hrun ad rows.length cap hv h0 (by omega)
                have hadd:∀ k,(ad.add (n.toNat * ie.size)).add k=ad.add (n.toNat * ie.size+k):=by
                  intro k
                  obtain⟨b0,o0,s0⟩:=ad
                  simp at ug
                  subst ug
                  simp only[Addr.add_mid,aco]
                refine h.value (o:=o) (c:=.rd r) (v:=.pointer (some (ad.add (n.toNat * ie.size)))) (P:=P) (by simp[execOp,ho,hrr]) ?_
                subst hbs
                refine .rd r _ ((vs.drop (n.toNat * ie.size)).take ie.size) (λ_=>by rw[om];exact hb hne) (by unfold Addr.add;split<;>simp[ug]) ?_ (nT.row hu hr)
                intro k u hk
                rw[hadd]
                rw[abz] at hk
                split at hk
                · exact hc _ u (by simpa using hk)
                · cases hk
          · cases hs
        · cases hs
      · cases hs
    · cases hs
  · cases hs
theorem MK {bl:List (Nat × aO)}{c:PV}(h:Ah c=true):bI w I val bl c (gS c):=by
 cases c<;>simp[Ah] at h
 ·exact .leaf _ _ rfl (.int _ _ _)
 ·exact .leaf _ _ rfl (.bool _ _)
 exact .leaf _ _ rfl (.str _ _)
theorem Ou (h:bz B W0 I0 I val fs σ a w){op:BinOp}{t t':TypeId}{x y:Operand}(ho:o.op=.binOp op t x y t'){c:PV}(hs:binop op (σ.get x) (σ.get y)=some c):
    fR P B W0 I0 o a w (σ.put o.dst c):=by
  have ex:=h.eval x
  have ey:=h.eval y
  have fin:∀ v,(do eqGuard op t x y (a.eval x) (a.eval y);binOp op t (a.eval x) (a.eval y):Sem Value).run P w=.ok v w->bI w I val σ.bl c v->fR P B W0 I0 o a w (σ.put o.dst c):=by
    intro v hr hc
    refine h.value (v:=v) ?_ hc
    simp only[execOp,ho]
    simp only[Sem.run_bind] at hr ⊢
    rw[hr]
    rfl
  unfold binop at hs
  split at hs
  · rename_i k m k' n hx hy
    rw[hx] at ex
    rw[hy] at ey
    have ex:=eO ex
    have ey:=eO ey
    cases hk:BO k k' with
    | false=>simp[hk] at hs
    | true=>
      simp only[hk,cond_true] at hs
      have hk:k=k':=of_decide_eq_true hk
      subst hk
      have go:Ah c=true->(Go.binOp op t (.int k m) (.int k n)).run P w=.ok (gS c) w->fR P B W0 I0 o a w (σ.put o.dst c):=by
        intro hn hr
        refine fin _ ?_ (MK hn)
        rw[ex,ey,Sem.run_bind]
        have hg:(eqGuard op t x y (.int k m) (.int k n)).run P w=.ok () w:=by
          unfold eqGuard
          split<;>simp
        rw[hg]
        exact hr
      cases op<;>simp only[JG,JF,aaQ.injEq,reduceCtorEq] at hs<;>first
        | (subst hs;exact go rfl (by simp[gS,Go.binOp,Op.intArith,Op.intCmp,Op.intBits]))
        | (cases hz:decide (n=0) with
           | true=>simp[hz] at hs
           | false=>
             simp only[hz,cond_false,aaQ.injEq] at hs
             subst hs
             have hne:¬ n=0:=of_decide_eq_false hz
             exact go rfl (by simp[gS,Go.binOp,Op.intDiv,hne]))
  · rename_i s1 s2 hx hy
    rw[hx] at ex
    rw[hy] at ey
    have ex:=nw ex
    have ey:=nw ey
    have go:Ah c=true->(Go.binOp op t (.string s1) (.string s2)).run P w=.ok (gS c) w->fR P B W0 I0 o a w (σ.put o.dst c):=by
      intro hn hr
      refine fin _ ?_ (MK hn)
      rw[ex,ey,Sem.run_bind]
      have hg:(eqGuard op t x y (.string s1) (.string s2)).run P w=.ok () w:=by
        unfold eqGuard
        split<;>simp
      rw[hg]
      exact hr
    cases op<;>simp only[JH,aaQ.injEq,reduceCtorEq] at hs<;>first
      | (subst hs;exact go rfl (by simp[gS,Go.binOp,Op.stringOp]))
      | (cases hz:decide (s1.size+s2.size<=140737488355328) with
         | false=>simp[hz] at hs
         | true=>
           simp only[hz,cond_true,aaQ.injEq] at hs
           subst hs
           have hle:s1.size+s2.size<=140737488355328:=of_decide_eq_true hz
           exact go rfl (by
             have:¬ (((s1.size+s2.size:Nat):Int) > IntKind.i64.max):=by rw[show IntKind.i64.max=9223372036854775807 from rfl];omega
             simp only[gS,Go.binOp,Op.stringOp,this,if_false,Sem.run_pure]))
  · cases hs
def Sp (op:BinOp)(a b:Bool):Option Bool:=match op with | .eql=>some (a == b) | .neq=>some !(a == b) | _=>none
theorem KA {l:List PV}{v:Value}{bl:List (Nat × aO)}(h:bI w I val bl (.agg l) v)(hn:∀ c∈l,Ah c=true):v=.agg (l.map gS).toArray:=by
 cases h with
 | leaf c v hl h=>cases hl
 | agg cs vs h=>
  rw[go h hn]
where
 go:∀{l:List PV} {vs:List Value},aG w I val bl l vs->(∀ c∈l,Ah c=true)->vs=l.map gS
  | _,_,.nil,_=>rfl
  | _,_,.cons c l v vs h t,hn=>by
   have hc:=hn c (by simp)
   rw[List.map_cons,<- go t (λd hd=>hn d (by simp[hd]))]
   congr 1
   cases c<;>simp[Ah] at hc
   ·exact eO h
   ·exact pH h
   exact nw h
theorem Mb (hT:fa P T)(h:bz B W0 I0 I val fs σ a w){op:BinOp}{t t':TypeId}{x y:Operand}(ho:o.op=.binOp op t x y t'){c:PV}(hs:pd T op t (σ.get x) (σ.get y)=some c):
  fR P B W0 I0 o a w (σ.put o.dst c):=by
 unfold pd at hs
 split at hs
 ·rename_i b1 b2 hx hy
  split at hs
  case h_2=>cases hs
  rename_i ht
  obtain⟨_,_,_,_,_,_,_,_,_,hu⟩:=hT _ _ ht
  have hu:P.underlying t=some .bool:=hu
  have ex:=h.eval x
  have ey:=h.eval y
  rw[hx] at ex
  rw[hy] at ey
  have ex:=pH ex
  have ey:=pH ey
  have hr:∀ r,Sp op b1 b2=some r->c=.bool r->fR P B W0 I0 o a w (σ.put o.dst c):=by
   intro r hr hc
   subst hc
   refine h.value (v:=.bool r) ?_ (.leaf _ _ rfl (.bool _ _))
   have hg:(eqGuard op t x y (.bool b1) (.bool b2)).run P w=.ok () w:=by
    unfold eqGuard
    split<;>simp
   have hb:(Go.binOp op t (.bool b1) (.bool b2)).run P w=.ok (.bool r) w:=by
    have he:(Op.equal t (.bool b1) (.bool b2)).run P w=.ok (b1 == b2) w:=by
     unfold Op.equal Op.maxDepth
     rw[Op.equalIn.eq_2,Sem.run_bind,run_underlying hu]
     rfl
    cases op<;>simp only[Sp,aaQ.injEq,reduceCtorEq] at hr<;>subst hr<;>simp only[Go.binOp,Sem.run_bind,he,Result.andThen_ok,Sem.run_pure]
   simp only[execOp,ho,ex,ey,Sem.run_bind,hg,Result.andThen_ok,hb,Sem.run_pure]
  split at hs
  ·simp only[aaQ.injEq] at hs;exact hr _ rfl hs.symm
  ·simp only[aaQ.injEq] at hs;exact hr _ rfl hs.symm
  cases hs
 ·rename_i l l' hx hy
  split at hs
  case h_2=>cases hs
  rename_i fs0 fI lX z ht
  obtain⟨_,_,_,_,_,_,_,_,_,fields,hu,_,hfl⟩:=hT _ _ ht
  obtain⟨hgd,hcmp⟩:=hfl.1 rfl
  split at hs
  case h_2=>cases hs
  rename_i hk
  simp only[aaR] at hk
  obtain⟨sT,HN⟩:=hk
  have ex:=h.eval x
  have ey:=h.eval y
  rw[hx] at ex
  rw[hy] at ey
  have ex:=KA ex (Aj sT)
  have ey:=KA ey (Aj HN)
  have hr:∀ r,Sp op (dH l l') true=some r\/(op=.eql/\r=dH l l')\/(op=.neq/\r= !(dH l l'))->(op=.eql/\r=dH l l')\/(op=.neq/\r= !(dH l l'))->c=.bool r->fR P B W0 I0 o a w (σ.put o.dst c):=by
   intro r _ hr hc
   subst hc
   refine h.value (v:=.bool r) ?_ (.leaf _ _ rfl (.bool _ _))
   have he:=hcmp w l l' sT HN
   have hb:(Go.binOp op t (.agg (l.map gS).toArray) (.agg (l'.map gS).toArray)).run P w=.ok (.bool r) w:=by
    rcases hr with ⟨rfl,rfl⟩ | ⟨rfl,rfl⟩<;>simp only[Go.binOp,Sem.run_bind,he,Result.andThen_ok,Sem.run_pure]
   simp only[execOp,ho,ex,ey,Sem.run_bind,run_eqGuard_agg w op t x y _ _ hgd,Result.andThen_ok,hb,Sem.run_pure]
  split at hs
  ·simp only[aaQ.injEq] at hs;exact hr _ (.inr (.inl ⟨rfl,rfl⟩)) (.inl ⟨rfl,rfl⟩) hs.symm
  ·simp only[aaQ.injEq] at hs;exact hr _ (.inr (.inr ⟨rfl,rfl⟩)) (.inr ⟨rfl,rfl⟩) hs.symm
  cases hs
 exact Ou h ho hs
theorem yw {sz:Nat}:∀(rows:List (List PV)),(∀ r∈rows,r.length=sz)->∀(l m:Nat),((rows.drop l).take m).flatten=(rows.flatten.drop (l * sz)).take (m * sz)
 | [],_,l,m=>by simp
 | r::rows,hu,0,0=>by simp
 | r::rows,hu,0,m+1=>by
  have ih:=yw rows (λr hr=>hu r (by simp[hr])) 0 m
  have hr:r.length=sz:=hu r (by simp)
  simp only[List.drop_zero,ab0] at ih ⊢
  rw[acj,abD,abD,ih,ab7,Nat.add_comm,List.take_add,<- hr]
  simp
 | r::rows,hu,l+1,m=>by
  have ih:=yw rows (λr hr=>hu r (by simp[hr])) l m
  have hr:r.length=sz:=hu r (by simp)
  rw[List.drop_succ_cons,ih,abD,ab7,Nat.add_comm,<- List.drop_drop,<- hr]
  simp
theorem AI (h:bz B W0 I0 I val fs σ a w){n m:Int}{x:Operand}(hb:jr σ n (some x)=some m):∃ k,a.eval x=.int k m:=by
 simp only[jr] at hb
 split at hb
 ·rename_i k m' hx
  simp only[aaQ.injEq] at hb
  subst hb
  have e:=h.eval x
  rw[hx] at e
  exact⟨k,eO e⟩
 cases hb
theorem Sq {sz:Nat}{rows:List (List PV)}{ad:Addr}{cap:Nat}{F:Ft}(h:dj w I (.sl sz rows) (.slice (some ad) rows.length cap) F){l hh:Nat}(h1:l<=hh)(h2:hh<=rows.length):
  dj w I (.sl sz ((rows.drop l).take (hh - l))) (.slice (if cap=l then some ad else (some ad).map (·.add (l * sz))) (hh - l) (cap - l)) bf:=by
 cases h with
 | sl sz rows ad cap vs F hu hb hs hc hr hcap=>
  have hlen:((rows.drop l).take (hh - l)).length=hh - l:=by simp;omega
  have hmem:∀ r∈(rows.drop l).take (hh - l),r∈rows:=λr hr=>List.mem_of_mem_drop (List.mem_of_mem_take hr)
  have hne:¬ (rows.drop l).take (hh - l)=[]->¬ rows=[]:=λhn h0=>hn (by rw[h0];simp)
  have hR:bE w I ((rows.drop l).take (hh - l)).flatten ((vs.drop (l * sz)).take ((hh - l) * sz)) bf:=by
   rw[yw rows hu];exact(hr.drop _).take _
  have key:∀ Qb:Addr,Qb.block=ad.block->(¬ (rows.drop l).take (hh - l)=[]->Qb=ad.add (l * sz))->dj w I (.sl sz ((rows.drop l).take (hh - l))) (.slice (some Qb) (hh - l) (cap - l)) bf:=by
   intro Qb hbl had
   have:=dj.sl (w:=w) (I:=I) sz ((rows.drop l).take (hh - l)) Qb (cap - l) ((vs.drop (l * sz)).take ((hh - l) * sz)) bf (λr hr=>hu r (hmem r hr)) (λhn=>by rw[hbl];exact hb (hne hn))
    (λhn=>by
     rw[had hn]
     have:=hs (hne hn)
     unfold Addr.add
     split<;>simp[this])
    (λj u hj=>by
     by_cases hn:(rows.drop l).take (hh - l)=[]
     ·have hl:=hR.len
      rw[hn] at hl
      simp only[List.flatten_nil,List.length_nil] at hl
      have:j < ((vs.drop (l * sz)).take ((hh - l) * sz)).length:=(aaZ.1 hj).1
      omega
     rw[had hn]
     have hsp:=hs (hne hn)
     obtain⟨b0,o0,s0⟩:=ad
     simp only at hsp
     subst hsp
     rw[Addr.add_mid,Addr.add_mid,aco]
     rw[abz] at hj
     split at hj
     ·rw [List.getElem?_drop] at hj
      have:=hc (l * sz+j) u hj
      rwa [Addr.add_mid] at this
     cases hj)
    hR (by rw[hlen];omega)
   rwa [hlen] at this
  by_cases hcl:cap=l
  ·rw [if_pos hcl]
   refine key ad rfl λhn=>absurd ?_ hn
   have:hh - l=0:=by omega
   rw[this,List.take_zero]
  rw[if_neg hcl]
  exact key _ (om _ _) λ_=>rfl
theorem Mh (hT:fa P T)(h:bz B W0 I0 I val fs σ a w){t e:TypeId}{x z:Operand}{fI lX:Nat}{z0:List PV}{ie:TI}{d sz:Nat}{rows:List (List PV)}{k:IntKind}{n:Int}(ho:o.op=.slice t x (some z) none none)
  (ht:T t=some ⟨.slice e,fI,lX,z0⟩) (hte:T e=some ie) (hx:σ.get x=.own d) (hbd:av σ.bl d=some ⟨.arr,sz,rows⟩) (hz:σ.get z=.int k n) (h0:0<=n) (h1:n<=rows.length) (hs:nq sz ie.size=true):
  fR P B W0 I0 o a w (σ.put o.dst .aa):=by
 obtain⟨_,_,_,_,_,_,_,_,_,hk⟩:=hT _ _ ht
 have hk:P.underlying t=some (.slice e):=hk
 have he:P.elem t=e:=by simp[Program.elem,hk]
 obtain⟨inf,_,iX,hsz,_⟩:=hT _ _ hte
 have jl:P.underlying t=some (.slice (P.elem t)):=by rw[he];exact hk
 have hsize:∀ w',(sizeOf (P.elem t)).run P w'=.ok inf.size w':=by
  intro w'
  rw[he]
  simp[sizeOf,typeInfo,iX]
 have ex:=h.eval x
 rw[hx] at ex
 have ez:=h.eval z
 rw[hz] at ez
 have ez:=eO ez
 have hvd:a.eval x=val d:=by
  generalize a.eval x=v at ex
  cases ex with
  | leaf c v hl h=>cases hl
  | own d b hb hk=>rfl
 obtain⟨e0,xs,G,hu,how,hR,hG,hob⟩:=h.blocks d _ hbd
 have go:∀(ad:Option Addr) (cap:Nat),val d=.slice ad rows.length cap->∃ v,(Instr.sliceAt t (a.eval x) (some (a.eval z)) none none).run P w=.ok v w:=by
  intro ad cap hv
  rw[run_sliceAt_slice (h:=jl),hvd,hv,ez,run_slice_l (ht:=jl) (h0:=h0) (h1:=h1),hsize]
  simp[Result.andThen,sliced]
 have:∃ v,(Instr.sliceAt t (a.eval x) (some (a.eval z)) none none).run P w=.ok v w:=by
  rcases how.2 with ⟨hv,hn⟩ | ⟨g,cap,cur,hv,_⟩
  ·exact go none 0 (by rw[hv,hn])
  exact go _ cap hv
 obtain⟨v,hv⟩:=this
 refine h.value (v:=v) ?_ (.aa _)
 simp only[execOp,ho,ach,ab2,Sem.run_bind,hv,Result.andThen_ok,Sem.run_pure]
theorem N0 (hT:fa P T)(h:bz B W0 I0 I val fs σ a w){t:TypeId}{x:Operand}{lo hi mx:Option Operand}(ho:o.op=.slice t x lo hi mx)(hs:pT T σ o.dst t (σ.get x) lo hi mx=some aA):fR P B W0 I0 o a w aA:=by
 unfold pT at hs
 split at hs
 case h_2=>cases hs
 rename_i e _ _ _ ht
 obtain⟨_,_,_,_,_,_,_,_,_,hk⟩:=hT _ _ ht
 have hk:P.underlying t=some (.slice e):=hk
 have he:P.elem t=e:=by simp[Program.elem,hk]
 split at hs
 case h_3=>cases hs
 case h_2=>
  rename_i ie d hte hx
  split at hs
  case h_2=>cases hs
  rename_i sz rows z hbd
  split at hs
  case h_2=>cases hs
  rename_i k n hz
  split at hs
  case h_2=>cases hs
  rename_i hc
  simp only[aaQ.injEq] at hs
  subst hs
  simp only[aaR,decide_eq_true_eq] at hc
  exact Mh hT h ho ht hte hx hbd hz hc.1.1 hc.1.2 hc.2
 rename_i ie sz rows hte hx
 obtain⟨inf,_,iX,hsz,_⟩:=hT _ _ hte
 split at hs
 case h_2=>cases hs
 rename_i l m hlo hhi
 split at hs
 case h_2=>cases hs
 rename_i hc
 simp only[aaQ.injEq] at hs
 subst hs
 simp only[aaR,decide_eq_true_eq] at hc
 obtain⟨⟨⟨h0,h1⟩,h2⟩,hbs⟩:=hc
 have hbs:=eZ hbs
 have ex:=h.eval x
 rw[hx] at ex
 have hsize:∀ w',(sizeOf (P.elem t)).run P w'=.ok sz w':=by
  intro w'
  rw[he]
  simp[sizeOf,typeInfo,iX,hsz,hbs]
 have jl:P.underlying t=some (.slice (P.elem t)):=by rw[he];exact hk
 have go:∀(ad:Option Addr) (cap:Nat),a.eval x=.slice ad rows.length cap->m<=cap->
   (Instr.sliceAt t (a.eval x) (lo.map a.eval) (hi.map a.eval) none).run P w=.ok (.slice (if cap=l.toNat then ad else ad.map (·.add (l.toNat * sz))) (m.toNat - l.toNat) (cap - l.toNat)) w:=by
  intro ad cap hv hcap
  rw[run_sliceAt_slice (h:=jl),hv]
  cases lo with
  | none=>
   simp only[jr,aaQ.injEq] at hlo
   subst hlo
   cases hi with
   | none=>
    simp only[jr,aaQ.injEq] at hhi
    subst hhi
    simp only[ach]
    rw[run_slice_all (ht:=jl),hsize]
    simp[Result.andThen,sliced]
   | some y=>
    obtain⟨k,hy⟩:=AI h hhi
    simp only[ach,ab2,hy]
    rw[run_slice_h (ht:=jl) (h0:=by omega) (h2:=hcap),hsize]
    simp[Result.andThen,sliced]
  | some z=>
   obtain⟨kz,hz⟩:=AI h hlo
   cases hi with
   | none=>
    simp only[jr,aaQ.injEq] at hhi
    subst hhi
    simp only[ach,ab2,hz]
    rw[run_slice_l (ht:=jl) (h0:=h0) (h1:=h1),hsize]
    simp[Result.andThen,sliced]
   | some y=>
    obtain⟨k,hy⟩:=AI h hhi
    simp only[ab2,hz,hy]
    rw[run_slice_lh (ht:=jl) (h0:=h0) (h1:=h1) (h2:=hcap),hsize]
    simp[Result.andThen,sliced]
 cases TH:a.eval x with
 | slice ad n cap=>
  rw[TH] at ex
  cases ex with
  | leaf c v hl hV=>
   cases hV with
   | slnil=>
    have e1:l=0:=by simp at h2;omega
    have e2:m=0:=by simp at h2;omega
    subst e1;subst e2
    have hg:=go none 0 TH (by omega)
    refine h.value (v:=.slice none 0 0) ?_ (.leaf _ _ rfl (by simpa using dj.slnil (w:=w) (I:=I) sz bf))
    simp only[execOp,ho,ach,Sem.run_bind,hg,Result.andThen_ok,Sem.run_pure]
    simp
   | sl sz rows ad cap vs F hu hb ug hcl hr hcap=>
    have hg:=go (some ad) cap TH (by omega)
    refine h.value (v:=_) ?_ (.leaf _ _ rfl (Sq (dj.sl sz rows ad cap vs bf hu hb ug hcl hr hcap) (l:=l.toNat) (hh:=m.toNat) (by omega) (by omega)))
    simp only[execOp,ho,ach,Sem.run_bind,hg,Result.andThen_ok,Sem.run_pure]
 | _=>rw[TH] at ex;cases ex with | leaf c v hl hV=>cases hV
end
end Go.Av

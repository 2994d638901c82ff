/- Lemmas and walks for FnExactServerNew: what each function of the program and of the reference comes to. -/
import Derived.Shelf.Strings.Builder1
import Derived.Shelf.Strings.Builder2
import Derived.Shelf.Small.Bits
import Derived.Shelf.Strings.BuilderF
import Derived.Shelf.Strings.BuilderK
import Derived.Shelf.Strings.Builder2Cap
import Derived.Shelf.Strconv.Itoa0
import Derived.Shelf.Sort.Plain
import Derived.Shelf.Strings.Prefix
import Derived.Shelf.Bits.Mul64
import Derived.Shelf.Strings.Repeat
import Derived.Ground.Names2Prog
import Derived.Shelf.Slices.Clone
import Derived.Shelf.Slices.CompactI
import Derived.Shelf.Slices.SearchI
import Derived.Shelf.Slices.Cells
import Derived.Shelf.Slices.In.SortNone
import Derived.Ground.SlgnProg
import Derived.Shelf.SlicesE.Clone
import Derived.Test.YtghokbigemmaaaaGreatProg
import Derived.Test.YtghokbigemmaaaaGreatJ1
import Derived.Test.YtghokbigemmaaaaGreatJ3
open List renaming length→aaK,map→aaN,length_map→aaS,take_of_length_le→aaU,mem_append→aaV,mem_cons_of_mem→aaX,replicate→aa0,length_take→aa1,mem_cons_self→aa2,take_add_one→aa6,take→aa8,mem_cons→aa9,mem_singleton→aba,mem_flatMap→abf,getElem?_take→abz,mem_map→abI,length_filter_le→abX,foldl_cons→ab1,getElem?_map→ab6,filter_cons→ace,mem_filter→aci,filter_sublist→acA,filterMap→acE,length_mergeSort→acF
open Int renaming toNat→aaO,le_refl→acp
open Bool renaming and_eq_true→aaR,or_eq_true→abU
open Nat renaming zero_le→aaW,lt_of_lt_of_le→abg
open Array renaming getElem?_eq_some_iff→abh
namespace Go.Proofs
open Go.Shelf
def Tryz.Mr :Go.Shelf.Ren:=⟨fun | 189=>194 | 125=>246 | 257=>245 | 128=>288 | 129=>289 | 294=>279 | 295=>280 | 296=>281 | 297=>282 | 298=>283 | 299=>284 | 216=>285 | 300=>286 | 301=>287 | 328=>310 | 329=>311 | 330=>312 | 331=>313 | 332=>314 | 215=>315 | 343=>324 | n=>n,fun | 28=>30 | 3=>3 | 46=>198 | 0=>0 | 51=>234 | 53=>244 | 4=>4 | 183=>281 | 182=>280 | 131=>219 | 5=>5 | 9=>9 | 218=>308 | 222=>312 | 228=>315 | 229=>316 | n=>n,fun | n=>n⟩
theorem Tryz.NG :Go.Proofs.Lays.n189 Tryz.prog Tryz.Mr:={
 mixed:=by kernel_rfl
 f125:=Tryz.func246.trans (congrArg some (by kernel_rfl))
 f128:=Tryz.func288.trans (congrArg some (by kernel_rfl))
 f129:=Tryz.func289.trans (congrArg some (by kernel_rfl))
 f189:=Tryz.func194.trans (congrArg some (by kernel_rfl))
 f215:=Tryz.func315.trans (congrArg some (by kernel_rfl))
 f216:=Tryz.func285.trans (congrArg some (by kernel_rfl))
 f257:=Tryz.func245.trans (congrArg some (by kernel_rfl))
 f294:=Tryz.func279.trans (congrArg some (by kernel_rfl))
 f295:=Tryz.func280.trans (congrArg some (by kernel_rfl))
 f296:=Tryz.func281.trans (congrArg some (by kernel_rfl))
 f297:=Tryz.func282.trans (congrArg some (by kernel_rfl))
 f298:=Tryz.func283.trans (congrArg some (by kernel_rfl))
 f299:=Tryz.func284.trans (congrArg some (by kernel_rfl))
 f300:=Tryz.func286.trans (congrArg some (by kernel_rfl))
 f301:=Tryz.func287.trans (congrArg some (by kernel_rfl))
 f328:=Tryz.func310.trans (congrArg some (by kernel_rfl))
 f329:=Tryz.func311.trans (congrArg some (by kernel_rfl))
 f330:=Tryz.func312.trans (congrArg some (by kernel_rfl))
 f331:=Tryz.func313.trans (congrArg some (by kernel_rfl))
 f332:=Tryz.func314.trans (congrArg some (by kernel_rfl))
 f343:=Tryz.func324.trans (congrArg some (by kernel_rfl))
 t0:=Tryz.underlying0
 a0:=Tryz.isAgg0
 z0:=Tryz.sizeOf0
 v0:=Tryz.zeroValue0
 t3:=Tryz.underlying3
 a3:=Tryz.isAgg3
 z3:=Tryz.sizeOf3
 v3:=Tryz.zeroValue3
 t4:=Tryz.underlying4
 a4:=Tryz.isAgg4
 z4:=Tryz.sizeOf4
 v4:=Tryz.zeroValue4
 t5:=Tryz.underlying5
 a5:=Tryz.isAgg5
 z5:=Tryz.sizeOf5
 v5:=Tryz.zeroValue5
 t9:=Tryz.underlying9
 a9:=Tryz.isAgg9
 z9:=Tryz.sizeOf9
 v9:=Tryz.zeroValue9
 t28:=Tryz.underlying30
 a28:=Tryz.isAgg30
 z28:=Tryz.sizeOf30
 v28:=Tryz.zeroValue30
 t46:=Tryz.underlying198
 a46:=Tryz.isAgg198
 z46:=Tryz.sizeOf198
 v46:=Tryz.zeroValue198
 t51:=Tryz.underlying234
 a51:=Tryz.isAgg234
 z51:=Tryz.sizeOf234
 v51:=Tryz.zeroValue234
 t53:=Tryz.underlying244
 a53:=Tryz.isAgg244
 z53:=Tryz.sizeOf244
 v53:=Tryz.zeroValue244
 t131:=Tryz.underlying219
 a131:=Tryz.isAgg219
 z131:=Tryz.sizeOf219
 v131:=Tryz.zeroValue219
 t182:=Tryz.underlying280
 a182:=Tryz.isAgg280
 z182:=Tryz.sizeOf280
 v182:=Tryz.zeroValue280
 t183:=Tryz.underlying281
 a183:=Tryz.isAgg281
 z183:=Tryz.sizeOf281
 v183:=Tryz.zeroValue281
 t218:=Tryz.underlying308
 a218:=Tryz.isAgg308
 z218:=Tryz.sizeOf308
 v218:=Tryz.zeroValue308
 t222:=Tryz.underlying312
 a222:=Tryz.isAgg312
 z222:=Tryz.sizeOf312
 v222:=Tryz.zeroValue312
 t228:=Tryz.underlying315
 a228:=Tryz.isAgg315
 z228:=Tryz.sizeOf315
 v228:=Tryz.zeroValue315
 t229:=Tryz.underlying316
 a229:=Tryz.isAgg316
 z229:=Tryz.sizeOf316
 v229:=Tryz.zeroValue316}
open Go.Sort Go.RowKit in
theorem Tryz.slices_Sort_int (av off cap:Nat)(zs:List Int)(w:World)(hH:Holds (Value.int .i64) w av off zs.toArray)(hblk:av < w.heap.size)(hsz:zs.length < 4611686018427387904):
  Calls Tryz.prog 194 #[.slice (some ⟨av,off,none⟩) zs.length cap] w λe w'=>
   e=.returned (.tuple #[])/\∃ n os,w'=grow (putRow (Value.int .i64) (Sort.ahead w n) av off (zs.mergeSort λx y=>decide (x<=y)).toArray) os:=Any.slices_Sort_int Tryz.NG av off cap zs w hH hblk hsz
open Go.RowKit Go.Sort in
theorem Tryz.slices_Sort_int_none (p:Option Addr)(cap:Nat)(w:World):
  Calls Tryz.prog 194 #[.slice p 0 cap] w λe w'=>e=.returned (.tuple #[])/\w'=w:=Any.slices_Sort_int_none Tryz.NG p cap w
def Tryz.Js :Go.Shelf.Ren:=⟨fun | 20=>195 | n=>n,fun | 22=>30 | 3=>3 | 4=>4 | 0=>0 | n=>n,fun | n=>n⟩
theorem Tryz.IY :Go.Proofs.Lays2.n20 Tryz.prog Tryz.Js:={
 mixed:=by kernel_rfl
 f20:=Tryz.func195.trans (congrArg some (by kernel_rfl))
 t0:=Tryz.underlying0
 a0:=Tryz.isAgg0
 z0:=Tryz.sizeOf0
 v0:=Tryz.zeroValue0
 t3:=Tryz.underlying3
 a3:=Tryz.isAgg3
 z3:=Tryz.sizeOf3
 v3:=Tryz.zeroValue3
 t4:=Tryz.underlying4
 a4:=Tryz.isAgg4
 z4:=Tryz.sizeOf4
 v4:=Tryz.zeroValue4
 t22:=Tryz.underlying30
 a22:=Tryz.isAgg30
 z22:=Tryz.sizeOf30
 v22:=Tryz.zeroValue30
 i3:=by kernel_rfl}
open Go.RowKit Go.Lib Go.Sort in
theorem Tryz.slices_Compact_int (av off cap:Nat)(zs:List Int)(w:World)(hH:Holds (Value.int .i64) w av off zs.toArray)(hsz:zs.length<=9223372036854775807)(hcap:zs.length<=cap):
  Calls Tryz.prog 195 #[.slice (some ⟨av,off,none⟩) zs.length cap] w λe w'=>e=.returned (.slice (some ⟨av,off,none⟩) (Lib.compact zs).length cap)/\∃ q,w'=putRow (Value.int .i64) (Sort.ahead w q) av off (Lib.compact zs++aa0 (zs.length - (Lib.compact zs).length) 0).toArray:=Any.slices_Compact_int Tryz.IY av off cap zs w hH hsz hcap
open Go.RowKit Go.Lib Go.Sort in
theorem Tryz.slices_Compact_int_empty (a:Option Addr)(cap:Nat)(w:World):
  Calls Tryz.prog 195 #[.slice a 0 cap] w λe w'=>e=.returned (.slice a 0 cap)/\w'=w:=Any.slices_Compact_int_empty Tryz.IY a cap w
def Tryz.Da :Go.Shelf.Ren:=⟨fun | 105=>108 | 212=>169 | 99=>170 | 165=>171 | 166=>172 | 170=>173 | 169=>174 | 263=>232 | 264=>233 | 206=>234 | 240=>235 | 241=>236 | 276=>275 | 277=>276 | n=>n,fun | 9=>9 | 3=>3 | 4=>4 | 20=>20 | 0=>0 | 46=>198 | 109=>199 | 5=>5 | 72=>204 | 76=>208 | 51=>234 | 146=>242 | 53=>244 | 148=>245 | 70=>202 | 37=>79 | 75=>207 | 127=>247 | 164=>275 | 80=>118 | n=>n,fun | n=>n⟩
theorem Tryz.Vh :Go.Proofs.Lays.n105 Tryz.prog Tryz.Da:={
 mixed:=by kernel_rfl
 f99:=Tryz.func170.trans (congrArg some (by kernel_rfl))
 f105:=Tryz.func108.trans (congrArg some (by kernel_rfl))
 f165:=Tryz.func171.trans (congrArg some (by kernel_rfl))
 f166:=Tryz.func172.trans (congrArg some (by kernel_rfl))
 f169:=Tryz.func174.trans (congrArg some (by kernel_rfl))
 f170:=Tryz.func173.trans (congrArg some (by kernel_rfl))
 f206:=Tryz.func234.trans (congrArg some (by kernel_rfl))
 f212:=Tryz.func169.trans (congrArg some (by kernel_rfl))
 f240:=Tryz.func235.trans (congrArg some (by kernel_rfl))
 f241:=Tryz.func236.trans (congrArg some (by kernel_rfl))
 f263:=Tryz.func232.trans (congrArg some (by kernel_rfl))
 f264:=Tryz.func233.trans (congrArg some (by kernel_rfl))
 f276:=Tryz.func275.trans (congrArg some (by kernel_rfl))
 f277:=Tryz.func276.trans (congrArg some (by kernel_rfl))
 t0:=Tryz.underlying0
 a0:=Tryz.isAgg0
 z0:=Tryz.sizeOf0
 v0:=Tryz.zeroValue0
 t3:=Tryz.underlying3
 a3:=Tryz.isAgg3
 z3:=Tryz.sizeOf3
 v3:=Tryz.zeroValue3
 t4:=Tryz.underlying4
 a4:=Tryz.isAgg4
 z4:=Tryz.sizeOf4
 v4:=Tryz.zeroValue4
 t5:=Tryz.underlying5
 a5:=Tryz.isAgg5
 z5:=Tryz.sizeOf5
 v5:=Tryz.zeroValue5
 t9:=Tryz.underlying9
 a9:=Tryz.isAgg9
 z9:=Tryz.sizeOf9
 v9:=Tryz.zeroValue9
 t20:=Tryz.underlying20
 a20:=Tryz.isAgg20
 z20:=Tryz.sizeOf20
 v20:=Tryz.zeroValue20
 t37:=Tryz.underlying79
 a37:=Tryz.isAgg79
 z37:=Tryz.sizeOf79
 v37:=Tryz.zeroValue79
 t46:=Tryz.underlying198
 a46:=Tryz.isAgg198
 z46:=Tryz.sizeOf198
 v46:=Tryz.zeroValue198
 t51:=Tryz.underlying234
 a51:=Tryz.isAgg234
 z51:=Tryz.sizeOf234
 v51:=Tryz.zeroValue234
 t53:=Tryz.underlying244
 a53:=Tryz.isAgg244
 z53:=Tryz.sizeOf244
 v53:=Tryz.zeroValue244
 t70:=Tryz.underlying202
 a70:=Tryz.isAgg202
 z70:=Tryz.sizeOf202
 v70:=Tryz.zeroValue202
 t72:=Tryz.underlying204
 a72:=Tryz.isAgg204
 z72:=Tryz.sizeOf204
 v72:=Tryz.zeroValue204
 t75:=Tryz.underlying207
 a75:=Tryz.isAgg207
 z75:=Tryz.sizeOf207
 v75:=Tryz.zeroValue207
 t76:=Tryz.underlying208
 a76:=Tryz.isAgg208
 z76:=Tryz.sizeOf208
 v76:=Tryz.zeroValue208
 t109:=Tryz.underlying199
 a109:=Tryz.isAgg199
 z109:=Tryz.sizeOf199
 v109:=Tryz.zeroValue199
 t127:=Tryz.underlying247
 a127:=Tryz.isAgg247
 z127:=Tryz.sizeOf247
 v127:=Tryz.zeroValue247
 t146:=Tryz.underlying242
 a146:=Tryz.isAgg242
 z146:=Tryz.sizeOf242
 v146:=Tryz.zeroValue242
 t148:=Tryz.underlying245
 a148:=Tryz.isAgg245
 z148:=Tryz.sizeOf245
 v148:=Tryz.zeroValue245
 t164:=Tryz.underlying275
 a164:=Tryz.isAgg275
 z164:=Tryz.sizeOf275
 v164:=Tryz.zeroValue275}
theorem Tryz.Cy :Builder.Extra Tryz.prog Tryz.Da:={
 sizeBuilder:=by kernel_rfl
 liesBuilder:=by kernel_rfl
 t5:=Tryz.underlying5
 a5:=Tryz.isAgg5
 z5:=Tryz.sizeOf5
 v5:=Tryz.zeroValue5
 infoByte:=by kernel_rfl
 cellsByte:=by kernel_rfl
 sizeByte:=by kernel_rfl
 neB5:=by decide}
open Go.RowKit Go.Lib in
theorem Tryz.strings_Repeat (s:ByteArray)(c:Nat)(w:World)(hc:c<=9223372036854775807)(hlen:s.size * c<=140737488355328):
  Calls Tryz.prog 108 #[.string s,.int .i64 c] w λe w'=>e=.returned (.string ⟨(Lib.repeatL s.data.toList c).toArray⟩)/\Below w.heap.size w w':=Any.strings_Repeat Tryz.Vh Tryz.Cy s c w hc hlen
end Go.Proofs
namespace Go.Av
open Go Go.Proofs Go.RowKit Go.Sort
set_option maxRecDepth 100000
set_option linter.unusedVariables false
set_option linter.unusedSimpArgs false
theorem BF {w:World}{I:Ft}:∀{zs:List Int} {xs:List Value} {G:Ft},bE w I (zs.map bq).flatten xs G->xs=zs.map (Value.int .i64)
 | [],xs,G,h=>by cases h;rfl
 | z::zs,xs,G,h=>by
  have h:bE w I (.int .i64 z::(zs.map bq).flatten) xs G:=h;cases h with
  | cons c l v vs F G' H hv t hF hG d=>
   cases hv;rw[BF (zs:=zs) t];rfl
theorem BG {w:World}{I:Ft}:∀(zs:List Int),bE w I (zs.map bq).flatten (zs.map (Value.int .i64)) bf
 | []=>.nil _
 | z::zs=>.cons _ _ _ _ bf bf bf (.int _ _ _) (BG zs) (λ_ h=>h) (λ_ h=>h) (λ_ h=>h.elim)
theorem zM (d:List Int)(cur:Array Value)(h:d.length<=cur.size):(putCells (Value.int .i64) 0 d.toArray cur).toList.take d.length=d.map (Value.int .i64):=by
 apply List.ext_getElem?;intro i;rw[abz,ab6]
 by_cases hi:i < d.length
 ·rw [if_pos hi]
  have hc:i < cur.size:=by omega
  simp[putCells,hc,hi]
 rw[if_neg hi,List.getElem?_eq_none (by omega)];rfl
theorem zN (d:Array Int)(cur:Array Value):(putCells (Value.int .i64) 0 d cur).size=cur.size:=by simp[putCells]
theorem L1 {w:World}{g:Nat}{cur:Array Value}{e:TypeId}{d:Array Int}{n:Nat}{os:Array Obj}(hg:w.heap[g]? =some (.cells cur e (0,0))):
  (grow (putRow (Value.int .i64) (Sort.ahead w n) g 0 d) os).heap[g]? =some (.cells (putCells (Value.int .i64) 0 d cur) e (0,0)):=by
 obtain⟨hl,Aq⟩:=abh.1 hg;have h1:((putRow (Value.int .i64) (Sort.ahead w n) g 0 d).heap)[g]? =some (.cells (putCells (Value.int .i64) 0 d cur) e (0,0)):=by
  show(w.heap.modify g (onCells (putCells (Value.int .i64) 0 d)))[g]? =_;rw[Array.getElem?_modify,if_pos rfl,hg];rfl
 show(((putRow (Value.int .i64) (Sort.ahead w n) g 0 d).heap)++os)[g]? =_;rw[Array.getElem?_append_left (abh.1 h1).1,h1]
theorem L2 {w:World}{g:Nat}{d:Array Int}{n:Nat}{os:Array Obj}{F:Ft}(hg:F g):Kept (λx=>F x\/w.heap.size<=x) w (grow (putRow (Value.int .i64) (Sort.ahead w n) g 0 d) os):=by
  have hs:(putRow (Value.int .i64) (Sort.ahead w n) g 0 d).heap.size=w.heap.size:=by simp[Sort.ahead]
  refine⟨rfl,rfl,rfl,?_,λk hk=>?_⟩
  · show w.heap.size<=((putRow (Value.int .i64) (Sort.ahead w n) g 0 d).heap++os).size
    rw[Array.size_append,hs];omega
  · have sT:k≠g:=λe=>hk (.inl (e ▸ hg))
    have HN:k < w.heap.size:=by
      rcases Nat.lt_or_ge k w.heap.size with h | h
      · exact h
      · exact absurd (.inr h) hk
    show(((putRow (Value.int .i64) (Sort.ahead w n) g 0 d).heap)++os)[k]? =_;rw[Array.getElem?_append_left (by rw[hs];exact HN)];show(w.heap.modify g (onCells (putCells (Value.int .i64) 0 d)))[k]? =_;rw[Array.getElem?_modify,if_neg (λe=>sT e.symm)]
theorem IZ {w:World}{g:Nat}{cur:Array Value}{e:TypeId}{zs:List Int}(hg:w.heap[g]? =some (.cells cur e (0,0)))(ht:cur.toList.take zs.length=zs.map (Value.int .i64)):Holds (Value.int .i64) w g 0 zs.toArray:=by
 intro j hj;have hj:j < zs.length:=by simpa using hj
 have h1:(cur.toList.take zs.length)[j]? =some (.int .i64 zs[j]):=by rw[ht,ab6,List.getElem?_eq_getElem hj];rfl
 rw[abz,if_pos hj,Array.getElem?_toList] at h1;refine⟨?_,?_⟩
 ·simp [World.cell?,hg,h1,hj]
 simp[World.frozen?,hg]
theorem QF (zs:List Int)(hz:zs.length < 4611686018427387904):fo Tryz.prog 194 [.ow 1 (zs.map bq)] [.ow 1 ((iN zs).map bq)] (.aw []):=by
 refine⟨⟨_,_,Tryz.func194,rfl,by kernel_rfl⟩,λw qJ I F K2 vs hR hI hF=>?_⟩;have hlen:(iN zs).length=zs.length:=acF _;cases hR with
 | cons c l v xf F1 G H h t MT hG1 d=>
  cases t;cases h with
  | one c v F1 h=>
   cases h with
   | ow sz rows v e xs F1 G1 hu how hr hG hb=>
    have hx:=BF hr;subst hx;obtain⟨h1,hv | ⟨g,cap,cur,hv,h0,hg,jI,aJ,mi,ht⟩⟩:=how
    ·obtain⟨hv,hn⟩:=hv
     subst hv;have ja:zs=[]:=by simpa using hn
     subst ja;refine Calls.mono (Tryz.slices_Sort_int_none none 0 w) λe' w' he=>?_;obtain⟨rfl,rfl⟩:=he;refine⟨I,bf,.aw _ _ _ (.nil _),?_,λ_ h=>h.elim,λx hx=>⟨.inl hx,hI x hx,λh=>h⟩,Kept.refl _ _⟩;rw[show iN []=[] from by simp[iN]];exact .cons _ _ _ _ bf bf bf (.one _ _ _ (.ow 1 [] _ e [] bf bf (λr hr=>by cases hr) (iz.nil _ _ _ _) (.nil _) (λ_ h=>h) (λb hb=>by cases hb))) (.nil _) (λ_ h=>h) (λ_ h=>h) (λ_ h=>h.elim)
    subst hv;have Yw:(zs.map bq).length=zs.length:=by simp
    rw[Yw] at ht jI ⊢;rw[Nat.mul_one] at ht mi;have FV:F g:=MT _ (hb g rfl).1;refine Calls.mono (Tryz.slices_Sort_int g 0 cap zs w (IZ hg ht) (abh.1 hg).1 hz) λe' w' he=>?_;obtain⟨rfl,n,os,rfl⟩:=he;have hk:=L2 (w:=w) (d:=(iN zs).toArray) (n:=n) (os:=os) FV;refine⟨I,λx=>x=g,.aw _ _ _ (.nil _),?_,λx hx=>?_,λx hx=>⟨.inl hx,abg (hI x hx) hk.size,λh=>?_⟩,hk⟩
    ·have rC:iz (grow (putRow (Value.int .i64) (Sort.ahead w n) g 0 (iN zs).toArray) os) 0 e 1 (.slice (some ⟨g,0,none⟩) zs.length cap) ((iN zs).map bq).length ((iN zs).map (Value.int .i64)):=by
      refine⟨by simp,.inr ⟨g,cap,putCells (Value.int .i64) 0 (iN zs).toArray cur,by simp[hlen],aaW _,L1 hg,by simp[hlen];exact jI,aJ,by rw[zN];omega,?_⟩⟩;have:=zM (iN zs) cur (by omega)
      simpa using this
     exact .cons _ _ _ _ (λx=>x=g) bf (λx=>x=g) (.one _ _ _ (.ow 1 _ _ e _ _ bf (λr hr=>by obtain⟨z,_,rfl⟩:=abI.1 hr;rfl) rC (BG _) (λ_ h=>h.elim) (λb hb=>by simp[Value.ownBlock] at hb;exact⟨hb.symm,λh=>h⟩))) (.nil _) (λ_ h=>h) (λ_ h=>h.elim) (λ_ _ h=>h)
    ·subst hx;exact⟨.inl FV,abg (hF _ FV).1 hk.size⟩
    subst h;exact(hF _ FV).2 hx
theorem Ps (zs:List Int):(Lib.compact zs).length<=zs.length:=by
 unfold Lib.compact Lib.compactUpTo;rw[aaS];have:=abX (Lib.keeps zs.toArray) (List.range zs.length)
 rwa [List.length_range] at this
theorem QE (zs:List Int)(hz:zs.length<=9223372036854775807):jh Tryz.prog 195 [.ow 1 (zs.map bq)] (.ow 1 ((Lib.compact zs).map bq)):=by
 refine⟨⟨_,_,Tryz.func195,rfl,by kernel_rfl⟩,λw qJ I F K2 vs hR hI hF=>?_⟩;have hlen:=Ps zs;cases hR with
 | cons c l v xf F1 G H h t MT hG1 d=>
  cases t;cases h with
  | one c v F1 h=>
   cases h with
   | ow sz rows v e xs F1 G1 hu how hr hG hb=>
    have hx:=BF hr;subst hx;obtain⟨h1,hv | ⟨g,cap,cur,hv,h0,hg,jI,aJ,mi,ht⟩⟩:=how
    ·obtain⟨hv,hn⟩:=hv
     subst hv;have ja:zs=[]:=by simpa using hn
     subst ja;refine Calls.mono (Tryz.slices_Compact_int_empty none 0 w) λe' w' he=>?_;obtain⟨rfl,rfl⟩:=he;refine⟨I,bf,.one _ _ _ (.one _ _ _ ?_),λ_ h=>h.elim,λx hx=>⟨.inl hx,hI x hx,λh=>h⟩,Kept.refl _ _⟩;rw[show Lib.compact ([]:List Int)=[] from rfl];exact .ow 1 [] _ e [] bf bf (λr hr=>by cases hr) (iz.nil _ _ _ _) (.nil _) (λ_ h=>h) (λb hb=>by cases hb)
    subst hv;have Yw:(zs.map bq).length=zs.length:=by simp
    rw[Yw] at ht jI ⊢;rw[Nat.mul_one] at ht mi;have FV:F g:=MT _ (hb g rfl).1;refine Calls.mono (Tryz.slices_Compact_int g 0 cap zs w (IZ hg ht) hz jI) λe' w' he=>?_;obtain⟨rfl,n,hw⟩:=he;generalize hd:Lib.compact zs++aa0 (zs.length - (Lib.compact zs).length) 0=d' at hw;have hw':w'=grow (putRow (Value.int .i64) (Sort.ahead w n) g 0 d'.toArray) #[]:=by rw[grow_empty];exact hw
    subst hw';have hdl:d'.length=zs.length:=by rw[<- hd];simp;omega
    have hk:=L2 (w:=w) (d:=d'.toArray) (n:=n) (os:=#[]) FV;refine⟨I,λx=>x=g,.one _ _ _ (.one _ _ _ ?_),λx hx=>?_,λx hx=>⟨.inl hx,abg (hI x hx) hk.size,λh=>?_⟩,hk⟩
    ·have rC:iz (grow (putRow (Value.int .i64) (Sort.ahead w n) g 0 d'.toArray) #[]) 0 e 1 (.slice (some ⟨g,0,none⟩) (Lib.compact zs).length cap) ((Lib.compact zs).map bq).length ((Lib.compact zs).map (Value.int .i64)):=by
      refine⟨by simp,.inr ⟨g,cap,putCells (Value.int .i64) 0 d'.toArray cur,by simp,aaW _,L1 hg,by simp;omega,aJ,by rw[zN];omega,?_⟩⟩;have h2:=zM d' cur (by omega);have h3:=congrArg (aa8 (Lib.compact zs).length) h2;rw[List.take_take,Nat.min_eq_left (by omega),<- List.map_take,<- hd,List.take_left' rfl,hd] at h3
      simpa using h3
     exact .ow 1 _ _ e _ _ bf (λr hr=>by obtain⟨z,_,rfl⟩:=abI.1 hr;rfl) rC (BG _) (λ_ h=>h.elim) (λb hb=>by simp[Value.ownBlock] at hb;exact⟨hb.symm,λh=>h⟩)
    ·subst hx;exact⟨.inl FV,abg (hF _ FV).1 hk.size⟩
    subst h;exact(hF _ FV).2 hx
end Go.Av
namespace Go.Av
open Go Go.Proofs
set_option maxRecDepth 100000
set_option maxHeartbeats 4000000
set_option linter.unusedVariables false
set_option linter.unusedSimpArgs false
theorem E7 {p:aE->Bool}{f:aE->Int}{xs:List ae}{i:Nat}{x:ae}(h:xs[i]? =some x):gU p f (xs.take (i+1))=if p x.Rec=true then gU p f (xs.take i)++[f x.Rec] else gU p f (xs.take i):=by
 rw[aa6,h,Option.toList_some,gU,List.filter_append,List.map_append]
 by_cases hk:p x.Rec=true<;>simp[ace,hk,gU]
theorem Ca (p:aE->Bool)(f:aE->Int)(xs:List ae)(i:Nat):(gU p f (xs.take i)).length<=xs.length:=by
 have h1:=abX (λx:ae=>p x.Rec) (xs.take i);rw[aa1] at h1;unfold gU;rw[aaS];omega
theorem Iy (zs:List Int):(iN zs).length=zs.length:=acF _
theorem Ln (A:ax)(hA:A=aj)(zs:List Int)(h:zs.length<=9223372036854775807):jh Tryz.prog 195 [.ow 1 (aaN bq zs)] (.ow 1 (aaN bq (Lib.compact zs))):=QE zs h
theorem SE (A:ax)(hA:A=aj)(r:aE):al 121 [.agg (gY r)] (.aw [.ii r.Valid,.bool (gZ r)]):=by
 obtain⟨b1,a9,b8,b6,b0,b4,b5,b3⟩:=r;refine ak (az:=[.agg [.ii b1,.ii a9,.ii b8,.ii b6,.ii b0,.str b4,.str b5,.str b3]]) (by rfl) ?_;refine aY Tryz.func121 ?_;refine gx hA 3 ?_;refine gs ?_;refine cz [0,1,3,4,5,2,6] (by cbv) ?_;refine dz hA 7 ?_;refine rt (gt ?_);show _=PV.aw [.ii a9,.bool (A.cmp .eql b1 1)];refine congrArg PV.aw ?_;subst hA;simp[gZ,dU,aj,bP,]
theorem SF (A:ax)(hA:A=aj)(r:aE)(v:Int):al 202 [.agg (gY r),.rd [.ii v]] (.aw [.ii r.dG,.bool (dU v r)]):=by
 obtain⟨b1,a9,b8,b6,b0,b4,b5,b3⟩:=r;refine ak (az:=[.agg [.ii b1,.ii a9,.ii b8,.ii b6,.ii b0,.str b4,.str b5,.str b3],.rd [.ii v]]) (by rfl) ?_;refine aY Tryz.func202 ?_;refine gx hA 3 ?_;refine gs ?_;refine cz [0,1,2,3,4,5,6,7,8,10,9,11] (by cbv) ?_;refine bL hA 4 ?_;obtain⟨d8,c9,aJ⟩:=kV (bD 3 v (⟨b1,a9,b8,b6,b0,b4,b5,b3⟩:aE)) (ot A hA (⟨b1,a9,b8,b6,b0,b4,b5,b3⟩:aE) 3 v);refine eQ aJ (.inr rfl) ?_;refine bL hA 1 ?_;refine bV 10 rfl (λc3=>?_) (λc3=>?_)
 ·
  refine dz hA 6 ?_;refine rt (gt ?_);refine congrArg PV.aw ?_;subst c9;subst hA;simp[gZ,dU,aj,bP,c3]
 refine bL hA 2 ?_;obtain⟨d7,d1,eu⟩:=kV (bD 5 v (⟨b1,a9,b8,b6,b0,b4,b5,b3⟩:aE)) (ot A hA (⟨b1,a9,b8,b6,b0,b4,b5,b3⟩:aE) 5 v);refine fE rfl rfl rfl rfl (by cbv) (by cbv) eu (.inr rfl) ?_;refine dz hA 3 ?_;refine rt (gt ?_);refine congrArg PV.aw ?_;subst d1 c9;subst hA;simp[gZ,dU,aj,bP,c3]
def DD (p0:RR)(p1 p2:Int)(p3:RR):St:={sl:=.aa::.fn 121 []::dV++.own 10::ql++.sl 9 p0::.ii p1::.ii p2::rP,bl:=[(10,⟨.arr,1,p3⟩)]}
theorem Ji (A:ax)(hA:A=aj)(xs:List ae)(hx:aaK xs<=1048576):al 120 [.sl 9 (aaN aW xs),.fn 121 []] (.ow 1 (aaN bq (gF gZ aE.Valid xs))):=by
 obtain⟨a8,c0,d2⟩:=nr hA aW xs;refine ak (az:=[.sl 9 a8,.fn 121 []]) (by subst c0;rfl) ?_;refine aY Tryz.func120 ?_;refine gx hA 1 ?_;refine gx hA 2 ?_;refine gs (gx hA 3 ?_);refine af ?_;refine aF (λσ m=>∃(i:Nat) (n:Int) (R:RR),σ=(DD a8 (A.ao a8) n R)/\(n=(i:Int)/\i<=aaK xs/\R=aaN bq (gU gZ aE.Valid (xs.take i)))/\m=aaK xs - i) _ [] [1,5,11,12,13] [10] _ rfl (by cbv) ⟨0,0,[],rfl,?_,rfl⟩ (λσ m hI=>?_)
 ·
  exact⟨rfl,aaW _,rfl⟩
 obtain⟨i,n,R,rfl,⟨hn,hi,hR⟩,rfl⟩:=hI;refine gx hA 1 ?_;refine gs ?_;refine gc (λc1=>?_) (λc1=>?_)
 ·
  have aV:n < (A.ao a8):=aP hA c1;refine gk (gs (af (gs (gr ?_))));obtain⟨c6,d4,x2,cX,d6⟩:=ga xs n (by omega) (by omega);obtain⟨b9,⟨a3,a0,a1,a5,a2,a6,a7,a4⟩⟩:=x2;have c8:a8[(aaO n)]? =some [.ii b9,.ii a3,.ii a0,.ii a1,.ii a5,.ii a2,.str a6,.str a7,.str a4]:=by
   exact bC aW c0 cX
  have b7:=cX;rw[hn] at b7;have b7:(xs)[i]? =some (⟨b9,⟨a3,a0,a1,a5,a2,a6,a7,a4⟩⟩:ae):=b7;refine ee c6 c8 ?_;refine rz hA 3 ?_;refine gs (gr (rn hA 3 ?_));obtain⟨d0,b2,cL⟩:=T1 (gZ (⟨a3,a0,a1,a5,a2,a6,a7,a4⟩:aE)) a0 (SE A hA (⟨a3,a0,a1,a5,a2,a6,a7,a4⟩:aE));refine aH cL (.inr rfl) ?_;refine rz hA 5 ?_;refine gx hA 1 ?_;refine gc (λc5=>?_) (λc5=>?_)
  ·
   refine gr (rn hA 3 ?_);obtain⟨r6,kv⟩:=nm (R++[[.ii a0]]:RR);have uD:r6=aaN bq ((gU gZ aE.Valid (xs.take i))++([(a0:Int)])):=by rw[kv];exact cM hR (by rfl)
   have TW:=ab hA uD;refine ju kv ?_ (hl:=by
    show(aaK R+aaK ([[.ii a0]])) * _<=_;have hnl:=Ca gZ aE.Valid xs i;show(aaK R+1) * 8<=_;rw[hR,aaS];omega)
   refine rz hA 1 ?_;refine gy hA 2 ?_;refine⟨_,_,?_,by cbv,i+1,(A.num .add .i64 n 1),r6,rfl,?_,rfl⟩
   ·
    omega
   refine⟨by rw[au hA (by omega) (by omega)];omega,by omega,?_⟩;rw[E7 b7,if_pos (by rw[<- b2,c5])];exact uD
  refine gk (gy hA 2 ?_);refine⟨_,_,?_,by cbv,i+1,(A.num .add .i64 n 1),R,rfl,?_,rfl⟩
  ·
   omega
  refine⟨by rw[au hA (by omega) (by omega)];omega,by omega,?_⟩;rw[E7 b7,if_neg (by rw[<- b2,c5];decide)];exact hR
 have aV:(A.ao a8)<=n:=aQ hA c1;refine aI (gE ?_);refine gs ?_;have hnl:=Ca gZ aE.Valid xs i;have d5:(iN (gU gZ aE.Valid (xs.take i))).length=(gU gZ aE.Valid (xs.take i)).length:=Iy _;refine gr (rn hA 1 ?_);obtain⟨Wj,c2,c4⟩:∃ r:RR,r=aaN bq (iN (gU gZ aE.Valid (xs.take i)))/\fo Tryz.prog 194 [.ow 1 R] [.ow 1 r] (.aw []):=⟨_,rfl,by subst hR;exact QF (gU gZ aE.Valid (xs.take i)) (by omega)⟩;have d3:=ab hA c2;refine iJ rfl (by cbv) (by cbv) (by cbv) c4 rfl (by cbv) ?_;refine od ?_;refine gs (gr (rn hA 1 ?_));obtain⟨z8,qR,c7⟩:∃ r:RR,r=aaN bq (Lib.compact (iN (gU gZ aE.Valid (xs.take i))))/\jh Tryz.prog 195 [.ow 1 Wj] (.ow 1 r):=⟨_,rfl,by subst c2;exact Ln A hA (iN (gU gZ aE.Valid (xs.take i))) (by omega)⟩;have lz8:=ab hA qR;refine Am rfl (by cbv) rfl (by cbv) (by cbv) c7 (by cbv) ?_;refine rz hA 1 ?_;refine rt (gt ?_);refine congrArg (PV.ow 1) ?_;rw[qR,aaU (by omega)];rfl
def DE (p0:Int)(p1:RR)(p2 p3:Int)(p4:RR):St:={sl:=.aa::.fn 202 [.rd [.ii p0]]::dV++.own 10::ql++.sl 9 p1::.ii p2::.ii p3::rP,bl:=[(10,⟨.arr,1,p4⟩)]}
theorem Jj (A:ax)(hA:A=aj)(xs:List ae)(v:Int)(hx:aaK xs<=1048576):al 120 [.sl 9 (aaN aW xs),.fn 202 [.rd [.ii v]]] (.ow 1 (aaN bq (gF (dU v) aE.dG xs))):=by
 obtain⟨a8,c0,d2⟩:=nr hA aW xs;refine ak (az:=[.sl 9 a8,.fn 202 [.rd [.ii v]]]) (by subst c0;rfl) ?_;refine aY Tryz.func120 ?_;refine gx hA 1 ?_;refine gx hA 2 ?_;refine gs (gx hA 3 ?_);refine af ?_;refine aF (λσ m=>∃(i:Nat) (n:Int) (R:RR),σ=(DE v a8 (A.ao a8) n R)/\(n=(i:Int)/\i<=aaK xs/\R=aaN bq (gU (dU v) aE.dG (xs.take i)))/\m=aaK xs - i) _ [] [1,5,11,12,13] [10] _ rfl (by cbv) ⟨0,0,[],rfl,?_,rfl⟩ (λσ m hI=>?_)
 ·
  exact⟨rfl,aaW _,rfl⟩
 obtain⟨i,n,R,rfl,⟨hn,hi,hR⟩,rfl⟩:=hI;refine gx hA 1 ?_;refine gs ?_;refine gc (λc1=>?_) (λc1=>?_)
 ·
  have aV:n < (A.ao a8):=aP hA c1;refine gk (gs (af (gs (gr ?_))));obtain⟨c6,d4,x2,cX,d6⟩:=ga xs n (by omega) (by omega);obtain⟨b9,⟨a3,a0,a1,a5,a2,a6,a7,a4⟩⟩:=x2;have c8:a8[(aaO n)]? =some [.ii b9,.ii a3,.ii a0,.ii a1,.ii a5,.ii a2,.str a6,.str a7,.str a4]:=by
   exact bC aW c0 cX
  have b7:=cX;rw[hn] at b7;have b7:(xs)[i]? =some (⟨b9,⟨a3,a0,a1,a5,a2,a6,a7,a4⟩⟩:ae):=b7;refine ee c6 c8 ?_;refine rz hA 3 ?_;refine gs (gr (rn hA 3 ?_));obtain⟨d0,b2,cL⟩:=T1 (dU v (⟨a3,a0,a1,a5,a2,a6,a7,a4⟩:aE)) a1 (SF A hA (⟨a3,a0,a1,a5,a2,a6,a7,a4⟩:aE) v);refine aH cL (.inr rfl) ?_;refine rz hA 5 ?_;refine gx hA 1 ?_;refine gc (λc5=>?_) (λc5=>?_)
  ·
   refine gr (rn hA 3 ?_);obtain⟨r6,kv⟩:=nm (R++[[.ii a1]]:RR);have uD:r6=aaN bq ((gU (dU v) aE.dG (xs.take i))++([(a1:Int)])):=by rw[kv];exact cM hR (by rfl)
   have TW:=ab hA uD;refine ju kv ?_ (hl:=by
    show(aaK R+aaK ([[.ii a1]])) * _<=_;have hnl:=Ca (dU v) aE.dG xs i;show(aaK R+1) * 8<=_;rw[hR,aaS];omega)
   refine rz hA 1 ?_;refine gy hA 2 ?_;refine⟨_,_,?_,by cbv,i+1,(A.num .add .i64 n 1),r6,rfl,?_,rfl⟩
   ·
    omega
   refine⟨by rw[au hA (by omega) (by omega)];omega,by omega,?_⟩;rw[E7 b7,if_pos (by rw[<- b2,c5])];exact uD
  refine gk (gy hA 2 ?_);refine⟨_,_,?_,by cbv,i+1,(A.num .add .i64 n 1),R,rfl,?_,rfl⟩
  ·
   omega
  refine⟨by rw[au hA (by omega) (by omega)];omega,by omega,?_⟩;rw[E7 b7,if_neg (by rw[<- b2,c5];decide)];exact hR
 have aV:(A.ao a8)<=n:=aQ hA c1;refine aI (gE ?_);refine gs ?_;have hnl:=Ca (dU v) aE.dG xs i;have d5:(iN (gU (dU v) aE.dG (xs.take i))).length=(gU (dU v) aE.dG (xs.take i)).length:=Iy _;refine gr (rn hA 1 ?_);obtain⟨Wj,c2,c4⟩:∃ r:RR,r=aaN bq (iN (gU (dU v) aE.dG (xs.take i)))/\fo Tryz.prog 194 [.ow 1 R] [.ow 1 r] (.aw []):=⟨_,rfl,by subst hR;exact QF (gU (dU v) aE.dG (xs.take i)) (by omega)⟩;have d3:=ab hA c2;refine iJ rfl (by cbv) (by cbv) (by cbv) c4 rfl (by cbv) ?_;refine od ?_;refine gs (gr (rn hA 1 ?_));obtain⟨z8,qR,c7⟩:∃ r:RR,r=aaN bq (Lib.compact (iN (gU (dU v) aE.dG (xs.take i))))/\jh Tryz.prog 195 [.ow 1 Wj] (.ow 1 r):=⟨_,rfl,by subst c2;exact Ln A hA (iN (gU (dU v) aE.dG (xs.take i))) (by omega)⟩;have lz8:=ab hA qR;refine Am rfl (by cbv) rfl (by cbv) (by cbv) c7 (by cbv) ?_;refine rz hA 1 ?_;refine rt (gt ?_);refine congrArg (PV.ow 1) ?_;rw[qR,aaU (by omega)];rfl
end Go.Av
namespace Go.Av
open Go
set_option linter.unusedVariables false
set_option linter.unusedSimpArgs false
theorem xL :∀{l m:List Int},l.Pairwise (· < ·)->m.Pairwise (· < ·)->(∀ x,x∈l↔x∈m)->l=m
 | [],[],_,_,_=>rfl
 | [],b::m,_,_,h=>absurd ((h b).2 (aa2 ..)) (by simp)
 | a::l,[],_,_,h=>absurd ((h a).1 (aa2 ..)) (by simp)
 | a::l,b::m,hl,hm,h=>by
  rw[List.pairwise_cons] at hl hm;have e:a=b:=by
   rcases aa9.1 ((h a).1 (aa2 ..)) with e | e
   ·exact e
   rcases aa9.1 ((h b).2 (aa2 ..)) with e2 | e2
   ·exact e2.symm
   have:=hm.1 a e;have:=hl.1 b e2;omega
  subst e;refine congrArg _ (xL hl.2 hm.2 λx=>⟨λhx=>?_,λhx=>?_⟩)
  ·rcases aa9.1 ((h x).1 (aaX _ hx)) with e | e
   ·have:=hl.1 x hx;omega
   exact e
  rcases aa9.1 ((h x).2 (aaX _ hx)) with e | e
  ·have:=hm.1 x hx;omega
  exact e
theorem Mo (zs:List Int)(hs:zs.Pairwise (·<=·)):(Lib.compact zs).Pairwise (· < ·)/\∀ x,x∈Lib.compact zs↔x∈zs:=by
 have hd:∀ i j:Nat,i<=j->j < zs.length->zs.toArray[i]! <=zs.toArray[j]! :=by
  intro i j hij hj;rcases Nat.lt_or_eq_of_le hij with h | rfl
  ·have:=List.pairwise_iff_getElem.1 hs i j (by omega) hj h
   simpa [getElem!_pos,hj,show i < zs.length by omega] using this
  exact acp _
 have main:∀ m,m<=zs.length->(Lib.compactUpTo zs.toArray m).Pairwise (· < ·)/\∀ x,x∈Lib.compactUpTo zs.toArray m↔∃ j,j < m/\zs.toArray[j]! =x:=by
  intro m
  induction m with
  | zero=>intro _;exact⟨.nil,λx=>by simp[Lib.compactUpTo]⟩
  | succ m ih=>
   intro hm;obtain⟨h1,h2⟩:=ih (by omega);rw[Lib.compactUpTo_succ]
   by_cases hk:Lib.keeps zs.toArray m=true
   ·rw [if_pos hk]
    refine⟨List.pairwise_append.2 ⟨h1,List.pairwise_singleton ..,λx hx y hy=>?_⟩,λx=>?_⟩
    ·rw [aba.1 hy]
     obtain⟨j,hj,rfl⟩:=(h2 x).1 hx;have hk:=of_decide_eq_true hk;have hk:=hk.resolve_left (by omega);have h3:=hd j (m - 1) (by omega) (by omega);have h4:=hd (m - 1) m (by omega) (by omega);generalize zs.toArray[m]! =a at *;generalize zs.toArray[m - 1]! =b at *;generalize zs.toArray[j]! =c at *;omega
    rw[aaV,h2,aba];constructor
    ·rintro(⟨j,hj,rfl⟩ | rfl)
     ·exact⟨j,by omega,rfl⟩
     exact⟨m,by omega,rfl⟩
    rintro⟨j,hj,rfl⟩
    rcases Nat.lt_or_eq_of_le (Nat.le_of_lt_succ hj) with h | rfl
    ·exact .inl ⟨j,h,rfl⟩
    exact .inr rfl
   rw[if_neg hk,List.append_nil];refine⟨h1,λx=>?_⟩;rw[h2];have hk:¬ (m=0\/zs.toArray[m]! ≠zs.toArray[m - 1]!):=λh=>hk (decide_eq_true h);have hm0:m≠0:=λe=>hk (.inl e);have he:zs.toArray[m]! =zs.toArray[m - 1]! :=Classical.byContradiction λh=>hk (.inr h);constructor
   ·rintro⟨j,hj,rfl⟩;exact⟨j,by omega,rfl⟩
   rintro⟨j,hj,rfl⟩
   rcases Nat.lt_or_eq_of_le (Nat.le_of_lt_succ hj) with h | rfl
   ·exact⟨j,h,rfl⟩
   exact⟨j - 1,by omega,he.symm⟩
 obtain⟨h1,h2⟩:=main zs.length (Nat.le_refl _);refine⟨h1,λx=>(h2 x).trans ⟨?_,?_⟩⟩
 ·rintro⟨j,hj,rfl⟩;simp[getElem!_pos,hj]
 intro hx;obtain⟨j,hj,rfl⟩:=List.mem_iff_getElem.1 hx;exact⟨j,hj,by simp[getElem!_pos,hj]⟩
theorem lI (p:aE->Bool)(f:aE->Int)(xs:List ae):(gF p f xs).Pairwise (· < ·)/\∀ n,n∈gF p f xs↔∃ x∈xs,p x.Rec=true/\f x.Rec=n:=by
 have hs:(iN (gU p f xs)).Pairwise (·<=·):=by
  have h:=List.pairwise_mergeSort (le:=λx y:Int=>decide (x<=y)) (λa b c h1 h2=>by simp at *;omega) (λa b=>by simp;omega) (gU p f xs);exact h.imp λh=>of_decide_eq_true h
 obtain⟨h1,h2⟩:=Mo _ hs;refine⟨h1,λn=>(h2 n).trans ?_⟩;rw[show n∈iN (gU p f xs)↔n∈gU p f xs from(List.mergeSort_perm _ _).mem_iff];simp only[gU,abI,aci];constructor
 ·rintro⟨x,⟨h3,h4⟩,rfl⟩;exact⟨x,h3,h4,rfl⟩
 rintro⟨x,h3,h4,rfl⟩;exact⟨x,⟨h3,h4⟩,rfl⟩
theorem Mp (zs:List Int):(Lib.compact zs).length<=zs.length:=by
 unfold Lib.compact Lib.compactUpTo;rw[aaS];have:=abX (Lib.keeps zs.toArray) (List.range zs.length)
 rwa [List.length_range] at this
theorem Bi (p:aE->Bool)(f:aE->Int)(xs:List ae):(gF p f xs).length<=xs.length:=by
 have h1:=Mp (iN (gU p f xs));have h2:=abX (λx:ae=>p x.Rec) xs;have h3:(iN (gU p f xs)).length=(gU p f xs).length:=acF _;have h4:(gU p f xs).length=(xs.filter λx=>p x.Rec).length:=by unfold gU;rw[aaS]
 unfold gF;omega
theorem Nn (zs:List Int)(x:Int):uI zs x=zs.filter (λy=>decide (y < x))++x::zs.filter (λy=>decide (x < y)):=by simp[uI]
theorem SU {zs:List Int}{x n:Int}:n∈uI zs x↔n=x\/n∈zs:=by
 simp only[Nn,aaV,aa9,aci,decide_eq_true_eq];constructor
 ·rintro(h | h | h)
  ·exact .inr h.1
  ·exact .inl h
  exact .inr h.1
 rintro(h | h)
 ·exact .inr (.inl h)
 rcases Int.lt_trichotomy n x with h2 | h2 | h2
 ·exact .inl ⟨h,h2⟩
 ·exact .inr (.inl h2)
 exact .inr (.inr ⟨h,h2⟩)
theorem SV {zs:List Int}{x:Int}(h:zs.Pairwise (· < ·)):(uI zs x).Pairwise (· < ·):=by
 rw[Nn];refine List.pairwise_append.2 ⟨h.sublist acA,List.pairwise_cons.2 ⟨λa ha=>?_,h.sublist acA⟩,λa ha b hb=>?_⟩
 ·exact of_decide_eq_true (aci.1 ha).2
 have h1:a < x:=of_decide_eq_true (aci.1 ha).2;rcases aa9.1 hb with rfl | hb
 ·exact h1
 have h2:x < b:=of_decide_eq_true (aci.1 hb).2;omega
theorem vZ (q:aE->Bool)(f:aE->Int)(xs:List ae):(iO q f xs).Pairwise (· < ·)/\∀ n,n∈iO q f xs↔∃ x∈xs,q x.Rec=true/\f x.Rec=n:=by
 have main:∀(xs:List ae) (s:List Int),s.Pairwise (· < ·)->(xs.foldl (lA q f) s).Pairwise (· < ·)/\∀ n,n∈xs.foldl (lA q f) s↔n∈s\/∃ x∈xs,q x.Rec=true/\f x.Rec=n:=by
  intro xs
  induction xs with
  | nil=>intro s h;exact⟨h,λn=>by simp⟩
  | cons x xs ih=>
   intro s h;have hs:(lA q f s x).Pairwise (· < ·):=by unfold lA;split;exact SV h;exact h
   obtain⟨h1,h2⟩:=ih _ hs;refine⟨h1,λn=>(h2 n).trans ?_⟩;have hm:n∈lA q f s x↔n∈s\/(q x.Rec=true/\f x.Rec=n):=by
    unfold lA;split
    ·rename_i hq;rw[SU];simp only[hq,true_and]
     constructor
     ·rintro(h | h);exact .inr h.symm;exact .inl h
     rintro(h | h);exact .inr h;exact .inl h.symm
    rename_i hq;simp[hq]
   rw[hm];simp only[aa9,exists_eq_or_imp];exact or_assoc
 obtain⟨h1,h2⟩:=main xs [] .nil;exact⟨h1,λn=>(h2 n).trans (by simp)⟩
theorem GY (p:aE->Bool)(lt:ae->ae->Bool)(x:ae):fm p lt none x=if p x.Rec=true then some x else none:=by simp[fm]
theorem GZ (p:aE->Bool)(lt:ae->ae->Bool)(y x:ae):fm p lt (some y) x=if p x.Rec=true/\lt y x=true then some x else some y:=by simp[fm]
theorem LI {p:aE->Bool}{lt:ae->ae->Bool}:∀(xs:List ae) (b:Option ae),(xs.foldl (fm p lt) b).isSome=(b.isSome || xs.any λx=>p x.Rec)/\∀ x,xs.foldl (fm p lt) b=some x->b=some x\/(x∈xs/\p x.Rec=true)
 | [],b=>⟨by simp,λx h=>.inl h⟩
 | y::ys,b=>by
  obtain⟨h1,h2⟩:=LI (p:=p) (lt:=lt) ys (fm p lt b y);have hs:(fm p lt b y).isSome=(b.isSome || p y.Rec):=by
   cases b with
   | none=>rw[GY];cases p y.Rec<;>simp
   | some z=>rw[GZ];split<;>simp
  refine⟨by rw[ab1,h1,hs,List.any_cons,Bool.or_assoc],λx hx=>?_⟩;rcases h2 x hx with h | h
  ·cases b with
   | none=>
    rw[GY] at h;split at h
    ·rename_i hp
     simp only[Option.some.injEq] at h;subst h;exact .inr ⟨aa2 ..,hp⟩
    cases h
   | some z=>
    rw[GZ] at h;split at h
    ·rename_i hp
     simp only[Option.some.injEq] at h;subst h;exact .inr ⟨aa2 ..,hp.1⟩
    exact .inl h
  exact .inr ⟨aaX _ h.1,h.2⟩
theorem jG (p:aE->Bool)(lt:ae->ae->Bool)(xs:List ae):(gm p lt xs).isSome=xs.any λx=>p x.Rec:=by
 have:=(LI (p:=p) (lt:=lt) xs none).1;simpa [gm] using this
theorem Cb {p:aE->Bool}{lt:ae->ae->Bool}{xs:List ae}{x:ae}(h:gm p lt xs=some x):x∈xs/\p x.Rec=true:=by
 rcases(LI xs none).2 x h with h | h
 ·cases h
 exact h
theorem Q1 {p q:aE->Bool}{lt:ae->ae->Bool}{xs:List ae}(h:∀ x∈xs,p x.Rec=q x.Rec):gm p lt xs=gm q lt xs:=by
 have main:∀(xs:List ae) (b:Option ae),(∀ x∈xs,p x.Rec=q x.Rec)->xs.foldl (fm p lt) b=xs.foldl (fm q lt) b:=by
  intro xs
  induction xs with
  | nil=>intro b _;rfl
  | cons x xs ih=>
   intro b h;rw[ab1,ab1,show fm p lt b x=fm q lt b x by unfold fm;rw[h x (aa2 ..)]];exact ih _ λy hy=>h y (aaX _ hy)
 exact main xs none h
theorem Np {p:aE->Bool}:∀(xs:List ae) (b:Option ae) (x:ae),xs.foldl (fm p eP) b=some x->(∀ y,b=some y->y.Rec.Next<=x.Rec.Next)/\∀ y∈xs,p y.Rec=true->y.Rec.Next<=x.Rec.Next
  | [],b,x,h=>by
    have h:b=some x:=h;exact⟨λy hy=>by rw[h] at hy;cases hy;exact acp _,λy hy=>by cases hy⟩
  | z::zs,b,x,h=>by
    obtain⟨h1,h2⟩:=Np zs (fm p eP b z) x h;have hb:(∀ y,b=some y->y.Rec.Next<=x.Rec.Next)/\(p z.Rec=true->z.Rec.Next<=x.Rec.Next):=by
      cases b with
      | none=>
        rw[GY] at h1;exact⟨λy hy=>(nomatch hy),λhp=>h1 z (if_pos hp)⟩
      | some w=>
        rw[GZ] at h1
        by_cases hc:p z.Rec=true/\eP w z=true
        · rw[if_pos hc] at h1
          have h3:=h1 z rfl;have h4:=hc.2;refine⟨λy hy=>?_,λ_=>h3⟩;cases hy;unfold eP at h4;split at h4
          · omega
          · have:=of_decide_eq_true h4;omega
        · rw[if_neg hc] at h1
          have h3:=h1 w rfl;refine⟨h1,λhp=>?_⟩;have h4:¬ eP w z=true:=λh=>hc ⟨hp,h⟩;unfold eP at h4;split at h4
          · omega
          · have h4:¬ w.Rec.Next < z.Rec.Next:=λh=>h4 (decide_eq_true h)
            omega
    refine⟨hb.1,λy hy hp=>?_⟩;rcases aa9.1 hy with rfl | hy
    · exact hb.2 hp
    · exact h2 y hy hp
theorem SW {p:aE->Bool}{xs:List ae}{x:ae}(h:gm p eP xs=some x):∀ y∈xs,p y.Rec=true->y.Rec.Next<=x.Rec.Next:=(Np xs none x h).2
theorem max_le {β:Type}(g:β->Int):∀(l:List β) (a B:Int),l.foldl (λn u=>max n (g u)) a<=B↔a<=B/\∀ u∈l,g u<=B
 | [],a,B=>by simp
 | u::l,a,B=>by
  rw[ab1,max_le g l];simp only[aa9,forall_eq_or_imp];constructor
  ·intro h;exact⟨by omega,by omega,h.2⟩
  intro h;exact⟨by omega,h.2.2⟩
theorem Bt {β:Type}{f:Int->Option β}{g:Int->β}:∀(l:List Int),(∀ u∈l,∀ y,f u=some y->y=g u)->l.filterMap f=(l.filter λu=>(f u).isSome).map g
 | [],_=>rfl
 | u::l,h=>by
  have ih:=Bt l λu hu=>h u (aaX _ hu);cases hf:f u with
  | none=>simp[List.filterMap_cons,ace,hf,ih]
  | some y=>simp[List.filterMap_cons,ace,hf,ih,h u (aa2 ..) y hf]
theorem Bh {r:aE}(h:bH r=true):1<=r.Valid/\r.Valid<=9999/\(r.Kind=1->1<=r.Next/\r.Next<=10000)/\(r.Kind=2->r.dG=0)/\(r.Kind=3\/r.Kind=5->1<=r.dG/\r.dG<=9999):=by
 simp only[bH,dm,aaR,abU,decide_eq_true_eq] at h;omega
theorem DV :∀(pre xs:List ae),lU pre xs=true->∀ x∈xs,qO x=true
 | _,[],_,x,hx=>by cases hx
 | pre,y::xs,h,x,hx=>by
  unfold lU at h;rw[aaR,aaR] at h;rcases aa9.1 hx with rfl | hx
  ·exact h.1.1
  exact DV _ xs h.2 x hx
theorem vP {xs:List ae}(h:dY xs=true){x:ae}(hx:x∈xs):bH x.Rec=true:=by
 unfold dY at h;rw[aaR] at h;have:=DV _ _ h.2 x hx;unfold qO at this;rw[aaR] at this;exact this.2
theorem QN {xs:List ae}(h:dY xs=true){x:ae}(hx:x∈xs):1<=x.Seq/\x.Seq<=1000000000:=by
 unfold dY at h;rw[aaR] at h;have:=DV _ _ h.2 x hx;unfold qO at this;rw[aaR] at this
 simpa [dm] using this.1
theorem LJ {xs:List ae}(h:dY xs=true)(v:Int):gm (dq 2 v 0) dT xs=gm (bD 2 v) dT xs:=by
 refine Q1 λx hx=>?_;unfold dq
 by_cases hk:bD 2 v x.Rec=true
 ·rw [hk]
  have h2:x.Rec.Kind=2:=by
   unfold bD at hk;rw[aaR] at hk;exact of_decide_eq_true hk.1
  rw[(Bh (vP h hx)).2.2.2.1 h2];rfl
 simp[hk]
theorem jc {k v:Int}{r:aE}:bD k v r=true↔r.Kind=k/\r.Valid=v:=by simp[bD]
theorem O0 {v:Int}{xs:List ae}:(kF v xs).isSome=true↔(xs.any λx=>bD 2 v x.Rec)=false/\(xs.any λx=>bD 1 v x.Rec)=true:=by
 unfold kF;rw[jG]
 by_cases h:(xs.any λx=>bD 2 v x.Rec)=true
 ·rw [if_pos h,h];simp
 rw[if_neg h,jG];simp only[Bool.not_eq_true] at h;simp[h]
theorem Q2 {v:Int}{xs:List ae}{x:ae}(h:kF v xs=some x):gm (bD 1 v) eP xs=some x:=by
 unfold kF at h;split at h
 ·cases h
 exact h
theorem Q3 {xs:List ae}(hok:dY xs=true){v:Int}{x:ae}(hx:gm (bD 1 v) eP xs=some x):tI x.Rec.Next (gF (dU v) aE.dG xs)=jZ v xs:=by
 have hm:=Cb hx;have hv:=(jc.1 hm.2);have hr:=Bh (vP hok hm.1);have hb:∀ B:Int,tI x.Rec.Next (gF (dU v) aE.dG xs)<=B↔jZ v xs<=B:=by
  intro B;unfold jZ tI;rw[max_le (λu:Int=>u+1),max_le (λx:ae=>eT v x.Rec)];constructor
  ·rintro⟨h1,h2⟩
   refine⟨by have:=hr.2.2.1 hv.1;omega,λy hy=>?_⟩;unfold eT;split
   ·rename_i hk
    rw[aaR] at hk;exact Int.le_trans (SW hx y hy (jc.2 ⟨of_decide_eq_true hk.2,of_decide_eq_true hk.1⟩)) h1
   split
   ·rename_i hk
    exact h2 _ (((lI _ _ _).2 _).2 ⟨y,hy,hk,rfl⟩)
   have:=hr.2.2.1 hv.1;omega
  rintro⟨h1,h2⟩
  refine⟨?_,λu hu=>?_⟩
  ·have:=h2 x hm.1
   unfold eT at this
   rwa [if_pos (by rw[hv.1,hv.2];simp)] at this
  obtain⟨y,hy,hk,rfl⟩:=((lI _ _ _).2 _).1 hu;have:=h2 y hy;unfold eT at this;rw[if_neg,if_pos hk] at this
  ·exact this
  intro hc;rw[aaR] at hc;have h1:=of_decide_eq_true hc.2;unfold dU at hk;rw[abU,jc,jc] at hk;omega
 exact Int.le_antisymm ((hb _).2 (acp _)) ((hb _).1 (acp _))
theorem O1 {xs:List ae}{v:Int}(hb:(kF v xs).isSome=true):(gF (dU v) aE.dG xs).filterMap (jT v xs)=xy v xs:=by
  unfold xy T0;rw[Bt (g:=rW v xs)]
  · refine congrArg _ (xL (((lI _ _ _).1).sublist acA) (vZ _ _ _).1 λu=>?_)
    rw[aci,(lI _ _ _).2,(vZ _ _ _).2];have e:(jT v xs u).isSome=(ni v u xs).isSome:=by unfold jT;split<;>simp[*]
    have e2:(ni v u xs).isSome=true↔(xs.any λx=>dq 5 v u x.Rec)=false/\(xs.any λx=>dq 3 v u x.Rec)=true:=by
      unfold ni;rw[if_pos hb,jG]
      by_cases h:(xs.any λx=>dq 5 v u x.Rec)=true
      · rw[if_pos h,h];simp
      · rw[if_neg h,jG];simp only[Bool.not_eq_true] at h;simp[h]
    rw[e,e2];constructor
    · rintro⟨_,h1,h2⟩
      obtain⟨x,hx,hp⟩:=List.any_eq_true.1 h2;unfold dq at hp;rw[aaR] at hp;have hu:=of_decide_eq_true hp.2;refine⟨x,hx,?_,hu⟩;unfold kG;rw[aaR,jG,hu,h1];exact⟨hp.1,rfl⟩
    · rintro⟨x,hx,hq,hu⟩
      unfold kG at hq;rw[aaR,jG] at hq;refine⟨⟨x,hx,by unfold dU;rw[hq.1];rfl,hu⟩,by rw[<- hu];simpa using hq.2,List.any_eq_true.2 ⟨x,hx,?_⟩⟩;unfold dq;rw[hq.1,hu];simp
  · intro u _ y hy
    unfold jT at hy;split at hy
    · rename_i hs
      simp only[Option.some.injEq] at hy;subst hy;unfold rW;have:ni v u xs=gm (dq 3 v u) dT xs:=by
        unfold ni at hs ⊢;rw[if_pos hb] at hs ⊢;split
        · rename_i h;rw[if_pos h] at hs;cases hs
        · rfl
      rw[this]
    · cases hy
theorem SX {xs:List ae}(hok:dY xs=true){v:Int}{x:ae}(hx:kF v xs=some x):sL xs x=Bb xs v:=by
 have hl:=Q2 hx;have hv:=(jc.1 (Cb hl).2).2;unfold sL Bb;rw[hv,hl,Q3 hok hl,O1 (by rw[hx];rfl)];rfl
theorem O2 {xs:List ae}(hok:dY xs=true):Ba xs=E4 xs:=by
  unfold Ba E4 M0;rw[Bt (g:=Bb xs)]
  · refine congrArg _ (xL (((lI _ _ _).1).sublist acA) (vZ _ _ _).1 λv=>?_)
    rw[aci,(lI _ _ _).2,(vZ _ _ _).2];have e:(pC xs v).isSome=(kF v xs).isSome:=by unfold pC;split<;>simp[*]
    rw[e,O0];constructor
    · rintro⟨⟨x,hx,hp,hv⟩,h1,h2⟩
      refine⟨x,hx,?_,hv⟩;unfold mu;rw[aaR,LJ hok,jG,hv,h1];exact⟨hp,rfl⟩
    · rintro⟨x,hx,hq,hv⟩
      unfold mu at hq;rw[aaR,LJ hok,jG,hv] at hq;refine⟨⟨x,hx,hq.1,hv⟩,by simpa using hq.2,List.any_eq_true.2 ⟨x,hx,?_⟩⟩;exact jc.2 ⟨of_decide_eq_true hq.1,hv⟩
  · intro v _ y hy
    unfold pC at hy;split at hy
    · rename_i hs
      simp only[Option.some.injEq] at hy;subst hy;obtain⟨x,hx⟩:=Option.isSome_iff_exists.1 hs;rw[hx];exact SX hok hx
    · cases hy
theorem SI (xs:List ae):E5 xs=kB xs:=by
 unfold E5 kB
 by_cases h:dY xs=true
 ·rw [if_pos h,if_pos h,O2 h]
 rw[if_neg h,if_neg h]
theorem vS {us:List bu}{i:Nat}{s:bu}(h:us[i]? =some s):bm (us.take (i+1))=bm (us.take i)++s.ka:=by
 rw[aa6,h,bm,List.flatMap_append];simp[bm]
theorem IC (us:List bu)(i:Nat):(bm (us.take i)).length<=(bm us).length:=by
 have h:=List.take_append_drop i us;have h2:bm us=bm (us.take i)++bm (us.drop i):=by
  unfold bm;rw[<- List.flatMap_append,h]
 rw[h2,List.length_append];omega
theorem Bj {us:List bu}(h:∀ q∈gl us,q<=1048576)(hl:(bm us).length<=1048576):∀ q∈il (bm us),q<=1048576:=by
 intro q hq;rcases aa9.1 hq with rfl | hq
 ·exact hl
 obtain⟨x,hx,hq⟩:=abf.1 hq;obtain⟨s,hs,hx⟩:=abf.1 hx;refine h q (aaX _ (abf.2 ⟨s,hs,?_⟩));have:q∈il s.ka:=aaX _ (abf.2 ⟨x,hx,hq⟩);simp[yJ,this]
end Go.Av
namespace Go.Av
open Go Go.Proofs
set_option maxRecDepth 100000
set_option maxHeartbeats 4000000
set_option linter.unusedVariables false
set_option linter.unusedSimpArgs false
theorem DF {a:Int}{us:List Int}{i:Nat}{u:Int}(h:us[i]? =some u):tI a (us.take (i+1))=max (tI a (us.take i)) (u+1):=by
 rw[aa6,h];simp[tI,List.foldl_append]
theorem E9 {β:Type}{f:Int->Option β}{us:List Int}{i:Nat}{u:Int}(h:us[i]? =some u):(us.take (i+1)).filterMap f=(us.take i).filterMap f++(f u).toList:=by
 rw[aa6,h,List.filterMap_append];refine congrArg _ ?_;cases hf:f u<;>simp[hf]
theorem UR {xs:List ae}(hok:dY xs=true){v u:Int}(h:u∈gF (dU v) aE.dG xs):1<=u/\u<=9999:=by
 obtain⟨x,hx,hp,rfl⟩:=((lI _ _ _).2 _).1 h;refine(Bh (vP hok hx)).2.2.2.2 ?_;unfold dU at hp;rw[abU,jc,jc] at hp;omega
theorem Lq {β:Type}(f:Int->Option β)(us:List Int)(i:Nat):((us.take i).filterMap f).length<=us.length:=by
 have h1:=List.length_filterMap_le f (us.take i);rw[aa1] at h1;omega
def WB (p0:RR)(p1 p2 p3:Int)(p4:ByteArray)(p5:Int)(p6 p7:ByteArray)(p8:Int)(p9 fj:RR):St:={sl:=.sl 9 p0::dV++.pt 4 0 0::.pt 5 0 0::.pt 6 0 0::Tj++.own 31::.ii p1::.ii p2::Ea,bl:=[(4,⟨.var,5,[[.ii p3,.str p4,.str p4,.ii p3,.zc]]⟩),(5,⟨.var,1,[[.ii p5]]⟩),(6,⟨.var,5,[[.ii p5,.str p6,.str p7,.ii p8,.own 7003]]⟩),(31,⟨.arr,1,p9⟩),(7003,⟨.arr,3,fj⟩)]}
theorem Fa (A:ax)(hA:A=aj)(xs:List ae)(x:ae)(hok:dY xs=true)(hx:aaK xs<=1048576):al 123 [.sl 9 (aaN aW xs),.agg (aW x)] (.agg (eA (sL xs x))):=by
 obtain⟨d6,c2,k8⟩:=nr hA aW xs;obtain⟨k7,⟨i5,a0,i7,e4,i1,b3,b4,i3⟩⟩:=x;refine ak (az:=[.sl 9 d6,.agg [.ii k7,.ii i5,.ii a0,.ii i7,.ii e4,.ii i1,.str b3,.str b4,.str i3]]) (by subst c2;rfl) ?_;have IB:(aaK xs:Int)<=4611686018427387904:=by omega
 have hul:=Bi (dU a0) aE.dG xs;refine aY Tryz.func123 ?_;refine gx hA 2 ?_;refine gx hA 5 ?_;refine gx hA 13 ?_;refine gs (gr (rn hA 2 ?_));obtain⟨b5,e8,aJ⟩:=xq (Jj A hA xs a0 (by omega));have m2:=ab hA e8;refine aH aJ (.inl (by simp only[fresh,cj,e8,kc,and_self])) ?_ (hv:=by subst c2;rfl);refine rz hA 1 ?_;refine gs (gx hA 3 ?_);refine af ?_;refine aF (λσ m=>∃(i:Nat) (n nx:Int) (R:RR),σ=(WB d6 (A.ao b5) n 0 ByteArray.empty a0 b3 b4 nx b5 R)/\(n=(i:Int)/\i<=aaK (gF (dU a0) aE.dG xs)/\nx=tI e4 (aa8 i (gF (dU a0) aE.dG xs))/\R=aaN fz (acE (jT a0 xs) (aa8 i (gF (dU a0) aE.dG xs))))/\m=aaK (gF (dU a0) aE.dG xs) - i) _ [.cell 6 4 7003 3,.up 7003,.up 31,.up 6,.up 5,.up 4,.up 3] [0,4,5,6,32,33,34] [4,5,6,31,7003] _ rfl (by cbv) ⟨0,0,e4,[],rfl,?_,rfl⟩ (λσ m hI=>?_)
 ·
  exact⟨rfl,aaW _,rfl,rfl⟩
 obtain⟨i,n,nx,R,rfl,⟨hn,hi,hN,hR⟩,rfl⟩:=hI;refine gx hA 1 ?_;refine gs ?_;refine gc (λc3=>?_) (λc3=>?_)
 ·
  have cI:n < (A.ao b5):=aP hA c3;refine gk (gs (af (gs (gr ?_))));obtain⟨l8,m8,x4,AX,l4⟩:=ga (gF (dU a0) aE.dG xs) n (by omega) (by omega);have l2:b5[(aaO n)]? =some [.ii x4]:=by
   exact bC bq e8 AX
  have e9:=AX;rw[hn] at e9;have e9:(gF (dU a0) aE.dG xs)[i]? =some x4:=e9;have m4:=UR hok l4;have wadd:A.num .add .i64 x4 1=x4+1:=au hA (by omega) (by omega);have k9:n < (aaK b5:Int):=by
   rw[e8,aaS];omega
  refine nH l8 k9 ?_;refine bO rfl rfl (jM rfl rfl rfl rfl l2 rfl) ?_;refine rz hA 1 ?_;refine gs (gr (rn hA 4 ?_));obtain⟨m6,Fb⟩:=nm (max nx (A.num .add .i64 x4 1):Int);refine fk rfl (BU rfl rfl rfl Fb) ?_;refine rz hA 2 ?_;refine gs (gr (rn hA 3 ?_));obtain⟨k6,j5,i8,j9,j4,b2,j8,j6,a9,i2,f3,d8,d4,e6,e2,d2,e1,e3,d9,e5,jQ⟩:=xC (DC A hA xs a0 x4 (by assumption));refine aH jQ (.inr rfl) ?_ (hv:=by subst c2;rfl);refine rz hA 6 ?_;refine gs (gx hA 2 ?_);refine gc (λc9=>?_) (λc9=>?_)
  ·
   have cB:i2=false:=ck hA c9;refine aI (gE ?_);refine gy hA 2 ?_;refine⟨_,_,?_,by cbv,i+1,(A.num .add .i64 n 1),m6,R,rfl,?_,rfl⟩
   ·
    omega
   have hM:jT a0 xs x4=none:=by
    unfold jT;rw[if_neg (by rw[<- e5,cB];decide)]
   refine⟨by rw[au hA (by omega) (by omega)];omega,by omega,by rw[DF e9,<- hN,Fb,wadd],?_⟩;rw[E9 e9,hM,hR];simp
  have cf:i2=true:=cm hA c9;refine gk (gx hA 10 ?_);refine gs (gs (gr (rn hA 3 ?_)));obtain⟨k1,j1,i6,j7,j2,b1,j3,j0,i9,l3,f0,d0,b9,e0,c7,b8,d5,d3,d1,e7,l6⟩:=xC (qQ A hA xs 4 a0 x4 (by assumption));refine aH l6 (.inr rfl) ?_ (hv:=by subst c2;rfl);refine rz hA 6 ?_;refine gx hA 1 ?_;refine gc (λdF=>?_) (λdF=>?_)
  ·
   refine gy hA 5 ?_;refine gr (rn hA 4 ?_);obtain⟨M9,k3⟩:=nm (R++[[.ii x4,.ii b1,.str a9]]:RR);have k4:M9=aaN fz ((acE (jT a0 xs) (aa8 i (gF (dU a0) aE.dG xs)))++([(⟨x4,b1,a9⟩:gu)])):=by rw[k3];exact cM hR (by rfl)
   have m7:=ab hA k4;refine ju k3 ?_ (hl:=by
    show(aaK R+aaK ([[.ii x4,.ii b1,.str a9]])) * _<=_;have h1:=Lq (jT a0 xs) (gF (dU a0) aE.dG xs) i;have h2:=Bi (dU a0) aE.dG xs;show(aaK R+1) * 32<=_;rw[hR,aaS];omega)
   refine rz hA 2 ?_;refine gy hA 2 ?_;refine⟨_,_,?_,by cbv,i+1,(A.num .add .i64 n 1),m6,M9,rfl,?_,rfl⟩
   ·
    omega
   have hM:jT a0 xs x4=some (⟨x4,b1,a9⟩:gu):=by
    unfold jT B9;rw[if_pos (by rw[<- e5,cf]),if_pos (by rw[<- e7,dF])];simp only[e8,Fb,f3,d8,d4,e6,e2,d2,e1,e3,d9,e5,f0,d0,b9,e0,c7,b8,d5,d3,d1,e7]
   refine⟨by rw[au hA (by omega) (by omega)];omega,by omega,by rw[DF e9,<- hN,Fb,wadd],?_⟩;rw[E9 e9,hM];exact k4
  refine gk (gr (rn hA 4 ?_));obtain⟨CZ,g5⟩:=nm (R++[[.ii x4,.ii b2,.str a9]]:RR);have g6:CZ=aaN fz ((acE (jT a0 xs) (aa8 i (gF (dU a0) aE.dG xs)))++([(⟨x4,b2,a9⟩:gu)])):=by rw[g5];exact cM hR (by rfl)
  have l5:=ab hA g6;refine ju g5 ?_ (hl:=by
   show(aaK R+aaK ([[.ii x4,.ii b2,.str a9]])) * _<=_;have h1:=Lq (jT a0 xs) (gF (dU a0) aE.dG xs) i;have h2:=Bi (dU a0) aE.dG xs;show(aaK R+1) * 32<=_;rw[hR,aaS];omega)
  refine rz hA 2 ?_;refine gy hA 2 ?_;refine⟨_,_,?_,by cbv,i+1,(A.num .add .i64 n 1),m6,CZ,rfl,?_,rfl⟩
  ·
   omega
  have hM:jT a0 xs x4=some (⟨x4,b2,a9⟩:gu):=by
   unfold jT B9;rw[if_pos (by rw[<- e5,cf]),if_neg (by rw[<- e7,dF];decide)];simp only[e8,Fb,f3,d8,d4,e6,e2,d2,e1,e3,d9,e5,f0,d0,b9,e0,c7,b8,d5,d3,d1,e7]
  refine⟨by rw[au hA (by omega) (by omega)];omega,by omega,by rw[DF e9,<- hN,Fb,wadd],?_⟩;rw[E9 e9,hM];exact g6
 have cI:(A.ao b5)<=n:=aQ hA c3;refine aI (gE ?_);refine gx hA 2 ?_;refine rt (gt ?_);show _=(PV.agg [.ii a0,.str b3,.str b4,.ii nx,.ow 3 R]);have hle:aaK (gF (dU a0) aE.dG xs)<=i:=by omega
 rw[aaU hle] at hN hR;simp only[hN,hR];rfl
def Zf (p0:RR)(p1 p2:Int)(p3 p4:RR):St:={sl:=.sl 9 p0::.aa::.pt 2 0 0::.pt 3 0 0::tk++.own 14::.ii p1::.ii p2::rP,bl:=[(2,⟨.var,1,[[.zc]]⟩),(3,⟨.var,1,[[.own 7003]]⟩),(14,⟨.arr,1,p3⟩),(7003,⟨.arr,5,p4⟩)]}
theorem GF (A:ax)(hA:A=aj)(xs:List ae)(hz:∀ q∈il xs,q<=1048576):al 65 [.sl 9 (aaN aW xs)] (.agg (nz (kB xs))):=by
 obtain⟨d6,c2,k8⟩:=nr hA aW xs;refine ak (az:=[.sl 9 d6]) (by subst c2;rfl) ?_;have hx:aaK xs<=1048576:=hz _ (aa2 ..);have IB:(aaK xs:Int)<=4611686018427387904:=by omega
 have WC:∀ q∈il xs,(q:Int)<=4611686018427387904:=λq hq=>by have:=hz q hq;omega
 have hul:=Bi gZ aE.Valid xs;refine aY Tryz.func65 ?_;refine gx hA 1 ?_;refine gs (gs (gr (rn hA 1 ?_)));obtain⟨k5,i4,aJ⟩:=ib (rI A hA xs WC);refine aH aJ (.inr rfl) ?_ (hv:=by subst c2;rfl);refine rz hA 1 ?_;refine gc (λc3=>?_) (λc3=>?_)
 ·
  have c4:k5=false:=ck hA c3;refine gs (gB (rn hA 2 ?_));refine bY (tw:=[.cell 2 0 9001 5]) (by cbv) ?_;refine rt (gt ?_);show _=(PV.agg [.ow 5 ([])]);have hS:kB xs=⟨[]⟩:=by rw[kB,if_neg (by rw[<- i4,c4];decide)]
  rw[hS];rfl
 have c5:k5=true:=cm hA c3;refine gk (gs ?_);have hok:dY xs=true:=by rw[<- i4,c5]
 refine gy hA 3 ?_;refine gs (gs (gr (rn hA 1 ?_)));obtain⟨b6,g2,fq⟩:=xq (Ji A hA xs (by omega));have m1:=ab hA g2;refine aH fq (.inr rfl) ?_ (hv:=by subst c2;rfl);refine rz hA 2 ?_;refine af ?_;refine aF (λσ m=>∃(i:Nat) (n:Int) (R:RR),σ=(Zf d6 (A.ao b6) n b6 R)/\(n=(i:Int)/\i<=aaK (gF gZ aE.Valid xs)/\R=aaN eA (acE (pC xs) (aa8 i (gF gZ aE.Valid xs))))/\m=aaK (gF gZ aE.Valid xs) - i) _ [.cell 3 0 7003 5,.up 7003,.up 14,.up 3,.up 2] [0,2,3,14,15,16] [2,3,14,7003] _ rfl (by cbv) ⟨0,0,[],rfl,?_,rfl⟩ (λσ m hI=>?_)
 ·
  exact⟨rfl,aaW _,rfl⟩
 obtain⟨i,n,R,rfl,⟨hn,hi,hR⟩,rfl⟩:=hI;refine gx hA 1 ?_;refine gs ?_;refine gc (λc8=>?_) (λc8=>?_)
 ·
  have gz:n < (A.ao b6):=aP hA c8;refine gk (gs (af (gs (gr ?_))));obtain⟨m0,m5,x9,C0,m3⟩:=ga (gF gZ aE.Valid xs) n (by omega) (by omega);have l9:b6[(aaO n)]? =some [.ii x9]:=by
   exact bC bq g2 C0
  have i0:=C0;rw[hn] at i0;have i0:(gF gZ aE.Valid xs)[i]? =some x9:=i0;have k2:n < (aaK b6:Int):=by
   rw[g2,aaS];omega
  refine nH m0 k2 ?_;refine bO rfl rfl (jM rfl rfl rfl rfl l9 rfl) ?_;refine rz hA 1 ?_;refine gs (gr (rn hA 2 ?_));obtain⟨b0,a5,a1,a8,a7,a2,a6,a4,a3,l1,g4,f8,f2,g1,f6,f1,f4,g0,f7,f9,l7⟩:=xC (vK A hA xs x9 (by assumption));refine aH l7 (.inr rfl) ?_ (hv:=by subst c2;rfl);refine rz hA 6 ?_;refine gx hA 1 ?_;refine gc (λeU=>?_) (λeU=>?_)
  ·
   refine cR [0,1,2,3,4,5,6,7,8] (by cbv) ?_;refine cH hA 4 ?_;obtain⟨b7,c1,c0,c6,f5,g3,g8,g9,g7,d7,l0⟩:=Zg ((sL xs (⟨b0,⟨a5,a1,a8,a7,a2,a6,a4,a3⟩⟩:ae)).Valid) ((sL xs (⟨b0,⟨a5,a1,a8,a7,a2,a6,a4,a3⟩⟩:ae)).cv) ((sL xs (⟨b0,⟨a5,a1,a8,a7,a2,a6,a4,a3⟩⟩:ae)).Name) ((sL xs (⟨b0,⟨a5,a1,a8,a7,a2,a6,a4,a3⟩⟩:ae)).Next) (aaN fz ((sL xs (⟨b0,⟨a5,a1,a8,a7,a2,a6,a4,a3⟩⟩:ae)).fQ)) (Fa A hA xs (⟨b0,⟨a5,a1,a8,a7,a2,a6,a4,a3⟩⟩:ae) hok hx);have k0:=ab hA d7;refine nc l0 (.inr rfl) ?_ (hv:=by subst c2;rfl);refine cH hA 1 ?_;obtain⟨CZ,g5⟩:=nm (R++[[.ii b7,.str c1,.str c0,.ii c6,.ow 3 f5]]:RR);have g6:CZ=aaN eA ((acE (pC xs) (aa8 i (gF gZ aE.Valid xs)))++([(⟨b7,c1,c0,c6,(sL xs (⟨b0,⟨a5,a1,a8,a7,a2,a6,a4,a3⟩⟩:ae)).fQ⟩:aT)])):=by rw[g5];exact cM hR (by simp only[d7];rfl)
   have l5:=ab hA g6;refine iF rfl rfl rfl rfl rfl rfl rfl (ij rfl rfl rfl rfl rfl rfl rfl rfl g5 (by cbv) (by cbv) (by cbv) rfl (by
    show(aaK R+aaK ([[.ii b7,.str c1,.str c0,.ii c6,.ow 3 f5]])) * _<=_;have h1:=Lq (pC xs) (gF gZ aE.Valid xs) i;have h2:=Bi gZ aE.Valid xs;show(aaK R+1) * 72<=_;rw[hR,aaS];omega) (by decide) (by decide)) ?_
   refine cH hA 2 ?_;refine cS (by cbv) ?_;refine gy hA 2 ?_;refine⟨_,_,?_,by cbv,i+1,(A.num .add .i64 n 1),CZ,rfl,?_,rfl⟩
   ·
    omega
   have hM:pC xs x9=some (⟨b7,c1,c0,c6,(sL xs (⟨b0,⟨a5,a1,a8,a7,a2,a6,a4,a3⟩⟩:ae)).fQ⟩:aT):=by
    unfold pC;rw[if_pos (by rw[<- f9,eU])];simp only[i4,g2,g4,f8,f2,g1,f6,f1,f4,g0,f7,f9,g3,g8,g9,g7,d7]
   refine⟨by rw[au hA (by omega) (by omega)];omega,by omega,?_⟩;rw[E9 i0,hM];exact g6
  refine gk (gy hA 2 ?_);refine⟨_,_,?_,by cbv,i+1,(A.num .add .i64 n 1),R,rfl,?_,rfl⟩
  ·
   omega
  have hM:pC xs x9=none:=by
   unfold pC;rw[if_neg (by rw[<- f9,eU];decide)]
  refine⟨by rw[au hA (by omega) (by omega)];omega,by omega,?_⟩;rw[E9 i0,hM,hR];simp
 have gz:(A.ao b6)<=n:=aQ hA c8;refine aI (gE ?_);refine gx hA 2 ?_;refine rt (gt ?_);show _=(PV.agg [.ow 5 R]);have hle:aaK (gF gZ aE.Valid xs)<=i:=by omega
 have hS:kB xs=⟨Ba xs⟩:=by rw[kB,if_pos hok]
 rw[aaU hle] at hR;rw[hS];simp only[hR];rfl
end Go.Av

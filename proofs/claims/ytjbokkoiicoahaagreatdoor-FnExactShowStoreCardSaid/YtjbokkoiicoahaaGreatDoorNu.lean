/- Plain facts of numerals and flags. -/
import Derived.Test.YtjbokkoiicoahaaGreatDoorSh
import Derived.Test.YtjbokkoiicoahaaGreatDoorAvg
import Derived.Lib.AppendIntMem
import Derived.Test.YtjbokkoiicoahaaGreatDoorTy
namespace Go.Av
open Go Go.Proofs Go.RowKit
set_option maxRecDepth 100000
set_option linter.unusedVariables false
set_option linter.unusedSimpArgs false
def itoaB (n:Int):ByteArray:=⟨(Lib.itoa n).toArray⟩
def joinB (xs:List ByteArray)(sep:ByteArray):ByteArray:=⟨(Lib.join (xs.map (·.data.toList)) sep.data.toList).toArray⟩
theorem one_arg {w:World}{I:Ft}{val:Nat→Value}{c:PV}{vs:List Value}(h:RelSL w I val [] [c] vs):∃ v,vs=[v]∧RelS w I val [] c v:=by
 cases h with
 | cons c l v vs h t=>cases t;exact⟨v,rfl,h⟩
theorem two_args {w:World}{I:Ft}{val:Nat→Value}{c d:PV}{vs:List Value}(h:RelSL w I val [] [c,d] vs):∃ v u,vs=[v,u]∧RelS w I val [] c v∧RelS w I val [] d u:=by
  cases h with
  | cons c l v vs h t=>cases t with
    | cons c' l' v' vs' h' t'=>cases t';exact⟨v,v',rfl,h,h'⟩
theorem str_ret {w w':World}{I:Ft}{s:ByteArray}(hB:Below w.heap.size w w'):∃ J F,RelR w' J (.str s) (.string s) F∧(∀ x,F x→w.heap.size≤x∧x < w'.heap.size)∧(∀ x,J x→(I x∨w.heap.size≤x)∧x < w'.heap.size∧¬ F x)∧Below w.heap.size w w':=
 ⟨none',none',.one _ _ _ (.one _ _ _ (.str _ _)),fun _ h=>h.elim,fun _ h=>h.elim,hB⟩
theorem r_Itoa (n:Int)(h0: -9223372036854775808≤n)(h1:n≤9223372036854775807):Real Tryz.prog 35 [.int .i64 n] (.str (itoaB n)):=by
 refine⟨⟨_,_,Tryz.func35,rfl,by kernel_rfl⟩,fun w hInv I vs val hR hI=> ?_⟩
 obtain⟨v,rfl,hv⟩:=one_arg hR
 have hv:=rel_int hv
 subst hv
 refine Calls.mono (Tryz.strconv_Itoa n h0 h1 w (hInv.tab 0 (by kernel_rfl))) fun e w' he=> ?_
 obtain⟨rfl,k,os,rfl⟩:=he
 exact str_ret (Lib.below_grow _ w (Nat.le_refl _) k os)
theorem joinB_size (xs:List ByteArray)(sep:ByteArray):(joinB xs sep).size=(Lib.join (xs.map (·.data.toList)) sep.data.toList).length:=by simp[joinB,ByteArray.size]
theorem flat1 :∀ xs:List ByteArray,(xs.map fun s=>[PV.str s]).flatten=xs.map PV.str
 | []=>rfl
 | x::xs=>by rw[List.map_cons,List.flatten_cons,flat1 xs];rfl
theorem r_Join (xs:List ByteArray)(sep:ByteArray)(hN:xs.length≤140737488355328)(hlen:(joinB xs sep).size≤140737488355328):Real Tryz.prog 41 [.sl 1 (xs.map fun s=>[.str s]),.str sep] (.str (joinB xs sep)):=by
  refine⟨⟨_,_,Tryz.func41,rfl,by kernel_rfl⟩,fun w hInv I vs val hR hI=> ?_⟩
  obtain⟨v,u,rfl,hv,hu⟩:=two_args hR
  have hu:=rel_str hu
  subst hu
  have hnone:xs=[]→∀(a:Option Addr) (c:Nat),Calls Tryz.prog 41 #[.slice a 0 c,.string sep] w fun e w'=>match e with
      | .returned v=>∃ J F,RelR w' J (.str (joinB xs sep)) v F∧(∀ x,F x→w.heap.size≤x∧x < w'.heap.size)∧(∀ x,J x→(I x∨w.heap.size≤x)∧x < w'.heap.size∧¬ F x)∧Below w.heap.size w w'
      | _=>False:=by
    intro hx a c
    subst hx
    refine Calls.mono (Tryz.strings_Join_none a c sep w) fun e w' he=> ?_
    obtain⟨rfl,rfl⟩:=he
    exact str_ret (Below.refl _ _)
  cases hv with
  | leaf c v hl h=>
    generalize hrows:xs.map (fun s=>[PV.str s])=rows at h
    cases h with
    | slnil sz F=>exact hnone (by simpa using hrows) _ _
    | sl sz rows a cap cs F hu hIa hs hc hr hcap=>
      have hlr:rows.length=xs.length:=by rw[← hrows];simp
      by_cases hx:xs=[]
      · have hr0:rows.length=0:=by rw[hlr,hx];rfl
        rw[hr0]
        exact hnone hx _ _
      · have hrn:¬ rows=[]:=by intro h;rw[h] at hrows;exact hx (by simpa using hrows)
        obtain⟨bk,o,sp⟩:=a
        have hsp:sp=none:=hs hrn
        subst hsp
        rw[hlr]
        refine Calls.mono (Tryz.strings_Join bk o cap xs sep w (fun j x hj=> ?_) (hI _ (hIa hrn)) hN (by omega) (joinB_size xs sep ▸ hlen)) fun e w' he=> ?_
        · have hrl:rows.flatten=xs.map PV.str:=by rw[← hrows];exact flat1 xs
          rw[hrl] at hr
          have hj':(xs.map PV.str)[j]? =some (.str x):=by simp[hj]
          have hcs:j < cs.length:=by
            have h2:=hr.len
            have:=(List.getElem?_eq_some_iff.1 hj').1
            omega
          obtain⟨G,hg⟩:=hr.getE j hj' (List.getElem?_eq_getElem hcs)
          have hcj:=hc j _ (List.getElem?_eq_getElem hcs)
          generalize cs[j]=cv at hg hcj
          cases hg
          rw[Addr.add_lit] at hcj
          exact hcj
        · obtain⟨rfl,hB⟩:=he
          exact str_ret hB
end Go.Av
namespace Go.Av
open Go Go.Proofs
set_option maxRecDepth 100000
set_option linter.unusedVariables false
set_option linter.unusedSimpArgs false
def i64 (n:Int):Prop:= -9223372036854775808≤n∧n≤9223372036854775807
def bOf (l:List UInt8):ByteArray:=⟨l.toArray⟩
theorem bOf_app (l l':List UInt8):bOf l++bOf l'=bOf (l++l'):=by
 apply ByteArray.ext
 rw[ByteArray.data_append]
 simp[bOf]
theorem bOf_size (l:List UInt8):(bOf l).size=l.length:=by simp[bOf,ByteArray.size]
def dgs (m:Nat):List UInt8:=if m=0 then [] else Lib.decDigits m
theorem dgs_step {m:Nat}(h:m≠0):dgs m=dgs (m / 10)++[UInt8.ofNat (48+m % 10)]:=by
 rw[dgs,if_neg h,Lib.decDigits]
 split
 ·rename_i h1
  rw[dgs,if_pos (by omega),Nat.mod_eq_of_lt h1];rfl
 rename_i h1
 rw[dgs,if_neg (by omega)]
theorem dd_len :∀(k u:Nat),u < 10 ^ (k+1)→(Lib.decDigits u).length≤k+1
 | 0,u,h=>by
  rw[Lib.decDigits,dif_pos (by simpa using h)];simp
 | k+1,u,h=>by
  rw[Lib.decDigits]
  split
  ·simp
  have h2:u / 10 < 10 ^ (k+1):=by rw[Nat.pow_succ] at h;omega
  have:=dd_len k (u / 10) h2
  simp;omega
theorem dgs_len {u:Nat}(h:u≤9223372036854775808):(dgs u).length≤19:=by
 unfold dgs
 split
 ·simp
 exact dd_len 18 u (by omega)
theorem itoa_dgs (n:Int)(h:n≠0):itoaB n=if n < 0 then bOf [45]++bOf (dgs n.natAbs) else bOf (dgs n.natAbs):=by
 have h1:n.natAbs≠0:=by omega
 unfold itoaB Lib.itoa
 split
 ·rw [bOf_app,dgs,if_neg h1];rfl
 have e:n.toNat=n.natAbs:=by omega
 rw[dgs,if_neg h1,e];rfl
theorem itoa_0 :itoaB 0=ByteArray.mk #[48]:=by
 unfold itoaB Lib.itoa
 rw[if_neg (by decide),Lib.decDigits,dif_pos (by decide)];rfl
theorem itoaB_size (n:Int)(h:i64 n):(itoaB n).size≤20:=by
 obtain⟨h1,h2⟩:=h
 by_cases h0:n=0
 ·subst h0;rw[itoa_0];decide
 rw[itoa_dgs n h0]
 have:=dgs_len (u:=n.natAbs) (by omega)
 split
 ·rw [bOf_app,bOf_size];simp;omega
 rw[bOf_size];omega
def figB (n:Int):ByteArray:=itoaB (max 0 n)
theorem figB_size (n:Int)(h:i64 n):(figB n).size≤20:=itoaB_size _ (by unfold i64 at *;omega)
theorem figB_neg {n:Int}(h:n < 0):figB n=ByteArray.mk #[48]:=by
 unfold figB;rw[Int.max_eq_left (by omega)];exact itoa_0
theorem figB_nn {n:Int}(h:0≤n):figB n=itoaB n:=by
 unfold figB;rw[Int.max_eq_right (by omega)]
theorem dgs_more {m:Nat}{S:ByteArray}{D:ByteArray}{d:Int}(h:m≠0)(hd:d=((m % 10:Nat):Int))(hD:D=strOfNums [48+d]):bOf (dgs m)++S=bOf (dgs (m / 10))++(D++S):=by
 have e:strOfNums [48+d]=bOf [UInt8.ofNat (48+m % 10)]:=by
  subst hd
  have e2:(48+((m % 10:Nat):Int)).toNat=48+m % 10:=by omega
  simp only[strOfNums,List.map_cons,List.map_nil,e2];rfl
 rw[dgs_step h,← bOf_app,hD,e,ByteArray.append_assoc]
def bitF (f:Int)(k:Nat):Bool:=decide (Int.tmod (Int.tdiv f (2 ^ k)) 2≠0)
def wdsF :List ByteArray:=[ByteArray.mk #[115,101,101,110],ByteArray.mk #[102,108,97,103,103,101,100],ByteArray.mk #[100,101,108,101,116,101,100]]
def spB :ByteArray:=ByteArray.mk #[32]
def wdF (k:Nat):ByteArray:=(wdsF[k]?).getD (ByteArray.mk #[])
def fwS (f:Int):Nat→ByteArray
 | 0=>ByteArray.mk #[]
 | k+1=>if bitF f k=true then (if fwS f k=ByteArray.mk #[] then ByteArray.mk #[] else fwS f k++spB)++wdF k else fwS f k
def flagW (f:Int):ByteArray:=(ByteArray.mk #[40]++fwS f 3)++ByteArray.mk #[41]
theorem and_p2 (x k:Nat):x &&& 2 ^ k=(x.testBit k).toNat * 2 ^ k:=by
 apply Nat.eq_of_testBit_eq
 intro j
 rw[Nat.testBit_and,Nat.testBit_two_pow]
 cases h:x.testBit k
 ·by_cases hj:k=j
  ·subst hj;simp[h]
  simp[hj]
 by_cases hj:k=j
 ·subst hj;simp[h,Nat.testBit_two_pow]
 simp[hj,Nat.testBit_two_pow]
theorem and_bit {f g:Int}(k:Nat)(hk:k≤2)(hf:i64 f)(hg:(0≤f∧g=f)∨(f < 0∧g=IntKind.wrap .i64 (0 - f))):std.num .and .i64 g (2 ^ k)=0↔bitF f k=false:=by
 obtain⟨h1,h2⟩:=hf
 have e0:std.num .and .i64 g (2 ^ k)=IntKind.wrap .i64 ((BitVec.ofInt 64 g &&& BitVec.ofInt 64 (2 ^ k)).toNat):=rfl
 have e1:(BitVec.ofInt 64 g &&& BitVec.ofInt 64 (2 ^ k)).toNat=(g % 18446744073709551616).toNat &&& 2 ^ k:=by
  rw[BitVec.toNat_and,BitVec.toNat_ofInt,BitVec.toNat_ofInt]
  congr 1
  rcases(by omega:k=0∨k=1∨k=2) with rfl | rfl | rfl<;>decide
 have e2:(g % 18446744073709551616).toNat &&& 2 ^ k=((g % 18446744073709551616).toNat.testBit k).toNat * 2 ^ k:=and_p2 _ _
 have e3:(g % 18446744073709551616).toNat.testBit k=decide ((g % 18446744073709551616).toNat / 2 ^ k % 2=1):=Nat.testBit_eq_decide_div_mod_eq
 have hg':(0≤f∧g=f)∨(f < 0∧(g= -f∨(f= -9223372036854775808∧g=f))):=by
  rcases hg with h | ⟨h,hw⟩
  ·exact .inl h
  refine .inr ⟨h,?_⟩
  by_cases hm:f= -9223372036854775808
  ·subst hm;right;exact⟨rfl,by rw[hw];decide⟩
  left;rw[hw];unfold IntKind.wrap;simp[IntKind.signed,IntKind.bits];omega
 rw[e0,e1,e2,e3]
 unfold bitF
 generalize hq:decide ((g % 18446744073709551616).toNat / 2 ^ k % 2=1)=q
 have hz:IntKind.wrap .i64 ((q.toNat * 2 ^ k:Nat):Int)=0↔q=false:=by
  rcases(by omega:k=0∨k=1∨k=2) with rfl | rfl | rfl<;>cases q<;>decide
 rw[hz,← hq]
 simp only[decide_eq_false_iff_not,ne_eq,Decidable.not_not]
 clear hz hq e0 e1 e2 e3 hg
 have key:∀(p:Int),(p=1∨p=2∨p=4)→(¬ (g % 18446744073709551616).toNat / p.toNat % 2=1↔(f.tdiv p).tmod 2=0):=by
  intro p hp
  by_cases hf:0≤f
  ·have hgf:g=f:=by omega
   subst hgf
   rw[Int.tdiv_eq_ediv_of_nonneg hf]
   rcases hp with rfl | rfl | rfl
   ·rw [Int.tmod_eq_emod_of_nonneg (by omega)];simp only[Int.toNat_one];omega
   ·rw [Int.tmod_eq_emod_of_nonneg (by omega)];show ¬ (g % 18446744073709551616).toNat / 2 % 2=1↔_;omega
   rw[Int.tmod_eq_emod_of_nonneg (by omega)];show ¬ (g % 18446744073709551616).toNat / 4 % 2=1↔_;omega
  have hn:∀ p:Int,(f.tdiv p).tmod 2= - ((-f).tdiv p).tmod 2:=by
   intro p
   rw[show f= -(-f) by omega,Int.neg_tdiv,Int.neg_tmod,Int.neg_neg]
  rw[hn,Int.tdiv_eq_ediv_of_nonneg (by omega)]
  rcases hp with rfl | rfl | rfl
  ·rw [Int.tmod_eq_emod_of_nonneg (by omega)];simp only[Int.toNat_one];omega
  ·rw [Int.tmod_eq_emod_of_nonneg (by omega)];show ¬ (g % 18446744073709551616).toNat / 2 % 2=1↔_;omega
  rw[Int.tmod_eq_emod_of_nonneg (by omega)];show ¬ (g % 18446744073709551616).toNat / 4 % 2=1↔_;omega
 rcases(by omega:k=0∨k=1∨k=2) with rfl | rfl | rfl
 ·exact key 1 (.inl rfl)
 ·exact key 2 (.inr (.inl rfl))
 exact key 4 (.inr (.inr rfl))
theorem fwS_join (f:Int)(ws:List ByteArray)(h:ws=(if bitF f 0 then [wdF 0] else [])++(if bitF f 1 then [wdF 1] else [])++(if bitF f 2 then [wdF 2] else [])):joinB ws spB=fwS f 3:=by
 subst h
 simp only[fwS]
 cases bitF f 0<;>cases bitF f 1<;>cases bitF f 2<;>decide
theorem fwS_size (f:Int):(fwS f 3).size≤20:=by
 simp only[fwS]
 cases bitF f 0<;>cases bitF f 1<;>cases bitF f 2<;>decide
theorem flagW_size (f:Int):(flagW f).size≤22:=by
 have h:=fwS_size f
 unfold flagW
 rw[ByteArray.size_append,ByteArray.size_append]
 have e1:(ByteArray.mk #[40]).size=1:=rfl
 have e2:(ByteArray.mk #[41]).size=1:=rfl
 omega
theorem wrap64 {n:Int}(h:i64 n):IntKind.wrap .i64 n=n:=by
 obtain⟨h1,h2⟩:=h
 unfold IntKind.wrap;simp[IntKind.signed,IntKind.bits];omega
theorem tdiv_in {f p:Int}(h:i64 f)(hp:0 < p):i64 (Int.tdiv f p):=by
 obtain⟨h1,h2⟩:=h
 have h3:(Int.tdiv f p).natAbs≤f.natAbs:=by rw[Int.natAbs_tdiv];exact Nat.div_le_self _ _
 have h4:0≤f→0≤Int.tdiv f p:=fun h=>Int.tdiv_nonneg h (by omega)
 have h5:f < 0→Int.tdiv f p≤0:=fun h=>by
  have:=Int.tdiv_nonneg (a:= -f) (b:=p) (by omega) (by omega)
  rw[Int.neg_tdiv] at this;omega
 unfold i64;omega
theorem rem10 (q:Int):(0≤q→Int.tmod q 10=q % 10)∧(q < 0→Int.tmod q 10= - ((-q) % 10)):=by
 refine⟨fun h=>Int.tmod_eq_emod_of_nonneg h,fun h=> ?_⟩
 rw[show q= -(-q) by omega,Int.neg_tmod,Int.neg_neg,Int.tmod_eq_emod_of_nonneg (by omega)]
theorem quo10 (q:Int):(0≤q→Int.tdiv q 10=q / 10)∧(q < 0→Int.tdiv q 10= - ((-q) / 10)):=by
 refine⟨fun h=>Int.tdiv_eq_ediv_of_nonneg h,fun h=> ?_⟩
 rw[show q= -(-q) by omega,Int.neg_tdiv,Int.neg_neg,Int.tdiv_eq_ediv_of_nonneg (by omega)]
theorem num_rem {A:Alg}(hA:A=std)(k:IntKind)(a b:Int):A.num .rem k a b=Int.tmod a b:=by rw[hA];rfl
theorem num_quo {A:Alg}(hA:A=std){a b:Int}(h:i64 a)(hb:0 < b):A.num .quo .i64 a b=Int.tdiv a b:=by rw[hA];exact wrap64 (tdiv_in h hb)
theorem fig_u8 {A:Alg}(hA:A=std){n:Int}(h0:0≤n)(h1:n < 10):A.cnv .u8 (A.num .add .i64 48 n)=48+n:=by
 rw[hA]
 show IntKind.wrap .u8 (IntKind.wrap .i64 (48+n))=48+n
 rw[wrap64 (by unfold i64;omega)]
 unfold IntKind.wrap;simp[IntKind.signed,IntKind.bits];omega
theorem ofB_size {A:Alg}(hA:A=std)(v:Int):ByteArray.size (A.ofB [[.int .u8 v]])=1:=by rw[hA];rfl
theorem ofB_one {A:Alg}(hA:A=std)(v:Int):A.ofB [[.int .u8 v]]=strOfNums [v]:=by rw[hA];rfl
theorem dgs_done {q:Int}{S:ByteArray}(h:q=0):bOf (dgs q.natAbs)++S=S:=by
 subst h
 apply ByteArray.ext
 rw[ByteArray.data_append]
 show #[]++S.data=S.data
 simp
theorem dgs_app {n q:Int}{S:ByteArray}(hn:n.natAbs≤9223372036854775808)(h:bOf (dgs n.natAbs)=bOf (dgs q.natAbs)++S):S.size≤19:=by
 have h1:=congrArg ByteArray.size h
 rw[ByteArray.size_append,bOf_size] at h1
 have:=dgs_len hn
 omega
theorem fwS_sz (f:Int){i:Nat}(h:i≤3):(fwS f i).size≤20:=by
 rcases(by omega:i=0∨i=1∨i=2∨i=3) with rfl | rfl | rfl | rfl
 ·show(0:Nat)≤20;omega
 ·simp only[fwS];cases bitF f 0<;>decide
 ·simp only[fwS];cases bitF f 0<;>cases bitF f 1<;>decide
 exact fwS_size f
theorem wdF_sz (i:Nat){x:ByteArray}(h:wdsF[i]? =some x):x.size≤7:=by
 have hl:=(List.getElem?_eq_some_iff.1 h).1
 have hl:i < 3:=hl
 rcases(by omega:i=0∨i=1∨i=2) with rfl | rfl | rfl<;>(injection h with h;subst h;decide)
theorem fw_t {f:Int}{i:Nat}{S x:ByteArray}(hb:bitF f i=true)(hS:S=fwS f i)(hx:wdsF[i]? =some x):fwS f (i+1)=(if S=ByteArray.mk #[] then ByteArray.mk #[] else S++spB)++x:=by
 subst hS;rw[fwS,if_pos hb,wdF,hx];rfl
theorem fw_f {f:Int}{i:Nat}(hb:bitF f i=false):fwS f (i+1)=fwS f i:=by
 rw[fwS,if_neg (by rw[hb];decide)]
theorem bit_of {A:Alg}(hA:A=std){f p q:Int}{i:Nat}(hf:i64 f)(hp:p=2 ^ i)(h0:0 < p)(hq:q=IntKind.wrap .i64 (Int.tdiv f p)):bitF f i=decide (A.num .rem .i64 q 2≠0):=by
 subst hp
 rw[num_rem hA,hq,wrap64 (tdiv_in hf h0)];rfl
theorem rItoa (A:Alg)(hA:A=std)(n:Int)(h:i64 n):Real Tryz.prog 35 [.int .i64 n] (.str (itoaB n)):=r_Itoa n h.1 h.2
theorem rJoin (A:Alg)(hA:A=std)(xs:List ByteArray)(sep:ByteArray)(h:xs.length≤140737488355328)(h2:(joinB xs sep).size≤140737488355328):Real Tryz.prog 41 [.sl 1 (List.map eString xs),.str sep] (.str (joinB xs sep)):=r_Join xs sep h h2
end Go.Av

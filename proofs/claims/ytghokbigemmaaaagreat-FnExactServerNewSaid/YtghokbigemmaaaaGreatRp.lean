/- Lemmas and walks for FnExactServerNew: what each function of the program and of the reference comes to. -/
import Derived.Test.YtghokbigemmaaaaGreatJ1
import Derived.Test.YtghokbigemmaaaaGreatJ7
import Derived.Test.YtghokbigemmaaaaGreatB1
open ByteArray renaming size→aaL,empty→aaM,mk→aaP,size_append→aaT,size_extract→aa3,append_assoc→abl,extract_extract→abq,empty_append→abw,extract_eq_extract_append_extract→abA,extract_eq_empty_iff→abO,extract_append_eq_left→abS,extract_append→abZ,extract_zero_size→ab4,append_empty→acn
open List renaming map→aaN,length_map→aaS,mem_append→aaV,mem_cons_of_mem→aaX,length_append→aaY,getElem?_eq_some_iff→aaZ,replicate→aa0,length_take→aa1,mem_cons_self→aa2,length_cons→aa5,take_add_one→aa6,getElem?_eq_getElem→aa7,mem_cons→aa9,mem_singleton→aba,mem_flatMap→abf,drop_of_length_le→abk,append_nil→abm,length_nil→abn,length_drop→abo,mem_of_getElem?→abx,getD_eq_getElem?_getD→aby,take_append_drop→abH,mem_map→abI,map_cons→abL,length_singleton→abM,foldl_append→abP,mem_or_eq_of_mem_set→abW,length_replicate→abY,foldl_cons→ab1,filter_cons→ace
open Int renaming toNat→aaO,toNat_natCast→abb,toNat_of_nonneg→abN,le_refl→acp,fdiv→acr
open Bool renaming and_eq_true→aaR,or_eq_true→abU
open Nat renaming zero_le→aaW,zero_add→abj,le_refl→abr,add_zero→ack,add_assoc→aco,eq_zero_or_pos→acq,min_eq_left→acs
namespace Go.Av
open Go
set_option linter.unusedVariables false
set_option linter.unusedSimpArgs false
theorem Ip :∀ xs:List Int,sb (aaN sY xs)=true/\qo (aaN sY xs)=xs
 | []=>⟨rfl,rfl⟩
 | x::xs=>by
  obtain⟨h1,h2⟩:=Ip xs;exact⟨h1,congrArg (x::·) h2⟩
theorem bg (xs:List Int):aaL (strOfNums xs)=xs.length:=by
 simp[strOfNums,aaL]
theorem xw {σ:St}{o:Oper}{t t' e:TypeId}{x:Operand}{s1 b1 s2 b2:Nat}{z1 z2:List PV}{rows:List (List PV)}{xs:List Int}{u:ByteArray}(ho:o.op=.convert t t' x)(h1:T t=some ⟨.slice e,s1,b1,z1⟩)(h2:T t'=some ⟨.str,s2,b2,z2⟩)
  (h3:NS T e=true) (h4:rowsOf σ.bl (σ.get x)=some rows) (h5:rows=aaN sY xs) (hu:u=strOfNums xs):step T σ o=some (σ.put o.dst (.str u)):=by
 subst h5;subst hu;have hb:=Ip xs;simp only[step,ho,uc,h1,h2,h3,h4,hb.1,hb.2,cond_true]
def fL (A:ax)(s:Int):Int:=if A.cmp .eql (A.num .and .u32 s 1) 1=true then A.num .xor .u32 (acr s (2 ^ aaO 1)) 3558460437 else acr s (2 ^ aaO 1)
def iw (A:ax)(s:Int):Int:=if A.cmp .eql (A.num .rem .u32 s 2) 1=true then A.num .xor .u32 (A.num .quo .u32 s 2) 3558460437 else A.num .quo .u32 s 2
def rl (f:Int->Int):Nat->Int->Int
 | 0,s=>s
 | n+1,s=>rl f n (f s)
theorem ER {f:Int->Int}{m i:Nat}{s:Int}(h:i < m):rl f (m - i) s=rl f (m - (i+1)) (f s):=by
 rw[show m - i=(m - (i+1))+1 by omega];rfl
def uF (A:ax)(f:Int->Int)(t:ByteArray):Nat->Nat->Int->Int
 | _,0,s=>s
 | i,n+1,s=>uF A f t (i+1) n (rl f 8 (A.num .xor .u32 s (A.cw .u32 (bc t (i:Int)))))
theorem MX {A:ax}{f:Int->Int}{t:ByteArray}{m i:Nat}{s:Int}(h:i < m):uF A f t i (m - i) s=uF A f t (i+1) (m - (i+1)) (rl f 8 (A.num .xor .u32 s (A.cw .u32 (bc t (i:Int))))):=by
 rw[show m - i=(m - (i+1))+1 by omega];rfl
theorem K8 {A:ax}{f:Int->Int}{t:ByteArray}{m i:Nat}{s:Int}(h:m<=i):uF A f t i (m - i) s=s:=by
 rw[show m - i=0 by omega];rfl
def AZ (A:ax)(f:Int->Int)(s:Int)(t:ByteArray):Int:=uF A f t 0 t.size s
def OR (A:ax)(n:Int):ByteArray:=strOfNums [A.cw .u8 (acr n (2 ^ aaO 24)),A.cw .u8 (acr n (2 ^ aaO 16)),A.cw .u8 (acr n (2 ^ aaO 8)),A.cw .u8 n]
def oM (A:ax)(f:Int->Int)(t:ByteArray):ByteArray:=OR A (AZ A f 4294967295 t)
theorem A0 (A:ax)(n:Int):(OR A n).size=4:=bg _
theorem mF (A:ax)(f:Int->Int)(t:ByteArray):(oM A f t).size=4:=A0 _ _
def iK (A:ax)(f:Int->Int)(t:ByteArray):ByteArray:=if 20000 < (t.size:Int) then aaP #[] else t++oM A f t
def iL (t:ByteArray):Bool:= !(decide (20000 < (t.size:Int)))
def CW (b e:Int->Int)(n:Int):List Int:=if h:127 < n then b n::CW b e (n / 128) else [e n]
 termination_by n.toNat
 decreasing_by omega
def nh (n:Int):Nat:=if h:127 < n then 1+nh (n / 128) else 1
 termination_by n.toNat
 decreasing_by omega
theorem K9 (b e:Int->Int)(n:Int):(CW b e n).length=nh n:=by
 rw[CW,nh];split
 ·rename_i h
  rw[aa5,K9 b e (n / 128)];omega
 ·rfl
 termination_by n.toNat
 decreasing_by omega
theorem MY {b e:Int->Int}{n:Int}(h:127 < n):CW b e n=b n::CW b e (n / 128):=by rw[CW,dif_pos h]
theorem B5 {b e:Int->Int}{n:Int}(h:¬ 127 < n):CW b e n=[e n]:=by rw[CW,dif_neg h]
theorem cq (n:Int)(h:n<=34359738367):nh n<=5:=by
 have s1:∀(k:Nat) (m:Int),(∀ q:Int,q<=m->nh q<=k)->1<=k->∀ n:Int,n<=m * 128+127->nh n<=k+1:=by
  intro k m hm hk n hn;rw[nh];split
  ·have:=hm (n / 128) (by omega);omega
  omega
 have a1:∀ q:Int,q<=127->nh q<=1:=λq h=>by rw[nh,dif_neg (by omega)];omega
 have a2:=s1 1 127 a1 (by omega);have a3:=s1 2 16383 (λq h=>a2 q (by omega)) (by omega);have a4:=s1 3 2097151 (λq h=>a3 q (by omega)) (by omega);have a5:=s1 4 268435455 (λq h=>a4 q (by omega)) (by omega);exact a5 n (by omega)
def cn (A:ax)(n:Int):List Int:=CW (λq=>A.cw .u8 (A.num .or .i64 (A.num .and .i64 q 127) 128)) (λq=>A.cw .u8 q) n
def dp (A:ax)(n:Int):List Int:=CW (λq=>A.cw .u8 (A.num .add .i64 (A.num .rem .i64 q 128) 128)) (λq=>A.cw .u8 q) n
theorem fx (A:ax)(n:Int):(cn A n).length=nh n:=K9 _ _ _
theorem eI (A:ax)(n:Int):(dp A n).length=nh n:=K9 _ _ _
theorem Wf {q:Int}(h:0<=q):acr q (2 ^ aaO 7)=q / 128:=by
 rw[Int.fdiv_eq_ediv_of_nonneg _ (by decide)];rfl
theorem rH {r:aE}(h:bH r=true):(0<=r.Valid/\r.Valid<=10000)/\(0<=r.dG/\r.dG<=10000)/\(0<=r.Next/\r.Next<=10000)/\(0<=r.Flags/\r.Flags<=10000):=by
 simp only[bH,dm,aaR,abU,decide_eq_true_eq] at h;omega
theorem vJ {A:ax}(hA:A=aj)(v:Int):aaL (A.uw [[.int .u8 v]])=1:=by rw[hA];rfl
def cU (f:aC):Bool:=(dm f.jy 1 1000000000 && dm f.Seq 1 1000000000) && dm (f.Body.size:Int) 1 180
def tF (v:Int->List Int)(s:ByteArray)(ns:List Int):ByteArray:=ns.foldl (λs n=>s++strOfNums (v n)) s
def tG (v:Int->List Int)(s:ByteArray)(xs:List ByteArray):ByteArray:=xs.foldl (λs x=>s++(strOfNums (v (x.size:Int))++x)) s
def pI (A:ax)(v:Int->List Int)(r:aE):ByteArray:=tG v (tF v (A.uw [[.int .u8 (A.cw .u8 r.Kind)]]) [r.Valid,r.dG,r.Next,r.Flags]) [r.cv,r.Name,r.Text]
def dB (A:ax)(v:Int->List Int)(r:aE):ByteArray:=if bH r=true then pI A v r else aaP #[]
def mG (A:ax)(v:Int->List Int)(x:ae)(g:Int):aC:=⟨g,x.Seq,dB A v x.Rec⟩
def kX (A:ax)(v:Int->List Int)(x:ae)(g:Int):Bool:=bH x.Rec && cU (mG A v x g)
def oW (A:ax)(v:Int->List Int)(x:ae)(g:Int):aC:=if kX A v x g=true then mG A v x g else ⟨0,0,aaM⟩
def nN (v:Int->List Int)(f:aC):ByteArray:=((strOfNums (v f.jy)++strOfNums (v f.Seq))++strOfNums (v (f.Body.size:Int)))++f.Body
def gi (A:ax)(v:Int->List Int)(s:Int->Int)(f:aC):ByteArray:=if cU f=true then iK A s (nN v f) else aaP #[]
def rp (v:Int->List Int)(f:aC):Bool:=cU f && iL (nN v f)
def vl (f:aC):Int:=if cU f=true then ((nh f.jy+nh f.Seq+nh (f.Body.size:Int)+f.Body.size+4:Nat):Int) else 0
theorem Iq {v:Int->List Int}(hv:∀ n,(v n).length=nh n)(f:aC):(nN v f).size=nh f.jy+nh f.Seq+nh (f.Body.size:Int)+f.Body.size:=by
 simp only[nN,aaT,bg,hv]
theorem A1 {f:aC}(h:cU f=true):1<=f.jy/\f.jy<=1000000000/\1<=f.Seq/\f.Seq<=1000000000/\f.Body.size<=180:=by
 simp only[cU,dm,aaR,decide_eq_true_eq] at h;omega
theorem UN {v:Int->List Int}(hv:∀ n,(v n).length=nh n){f:aC}(h:cU f=true):(nN v f).size<=195:=by
 have hr:=A1 h;have h1:=cq f.jy (by omega);have h2:=cq f.Seq (by omega);have h3:=cq (f.Body.size:Int) (by omega);rw[Iq hv];omega
theorem GB {A:ax}{v:Int->List Int}{s:Int->Int}(hv:∀ n,(v n).length=nh n)(f:aC):((gi A v s f).size:Int)=vl f:=by
 unfold gi vl;split
 ·rename_i h
  have hb:=UN hv h;unfold iK;rw[if_neg (by omega),aaT,mF,Iq hv]
 rfl
theorem ES {v:Int->List Int}(hv:∀ n,(v n).length=nh n):∀(ns:List Int) (s:ByteArray),(tF v s ns).size=s.size+(ns.map nh).sum
 | [],s=>by simp[tF]
 | n::ns,s=>by
  have h:=ES hv ns (s++strOfNums (v n));show(tF v (s++strOfNums (v n)) ns).size=_;rw[h,aaT,bg,hv];simp only[abL,List.sum_cons];omega
theorem ET {v:Int->List Int}(hv:∀ n,(v n).length=nh n):∀(xs:List ByteArray) (s:ByteArray),(tG v s xs).size=s.size+(xs.map λx=>nh (x.size:Int)+x.size).sum
 | [],s=>by simp[tG]
 | x::xs,s=>by
  have h:=ET hv xs (s++(strOfNums (v (x.size:Int))++x));show(tG v (s++(strOfNums (v (x.size:Int))++x)) xs).size=_;rw[h,aaT,aaT,bg,hv];simp only[abL,List.sum_cons];omega
theorem Ir {A:ax}{v:Int->List Int}(hv:∀ n,(v n).length=nh n){r:aE}(hz:∀ q∈eH r,q<=1048576)(hA:(A.uw [[.int .u8 (A.cw .u8 r.Kind)]]).size=1):(dB A v r).size<=10485760:=by
 unfold dB;split
 ·rename_i h
  have z1:r.cv.size<=1048576:=hz _ (by simp[eH]);have z2:r.Name.size<=1048576:=hz _ (by simp[eH]);have z3:r.Text.size<=1048576:=hz _ (by simp[eH]);have hg:=rH h;have h1:=cq r.Valid (by omega);have h2:=cq r.dG (by omega);have h3:=cq r.Next (by omega);have h4:=cq r.Flags (by omega);have h5:=cq (r.cv.size:Int) (by omega);have h6:=cq (r.Name.size:Int) (by omega);have h7:=cq (r.Text.size:Int) (by omega);unfold pI;rw[ET hv,ES hv,hA];simp only[abL,List.map_nil,List.sum_cons,List.sum_nil];omega
 show(aaP #[]).size<=_;decide
theorem UO {v:Int->List Int}{s:ByteArray}{ns:List Int}{i:Nat}{n:Int}(h:ns[i]? =some n):tF v s (ns.take (i+1))=tF v s (ns.take i)++strOfNums (v n):=by
 rw[aa6,h];simp[tF,abP]
theorem UP {v:Int->List Int}{s:ByteArray}{xs:List ByteArray}{i:Nat}{x:ByteArray}(h:xs[i]? =some x):tG v s (xs.take (i+1))=tG v s (xs.take i)++(strOfNums (v (x.size:Int))++x):=by
 rw[aa6,h];simp[tG,abP]
def zS :ByteArray:=strOfNums (aa0 32 0)
theorem Ce :zS.size=32:=by rw[zS,bg];rfl
def eM (d:bj):Prop:=1<=d.aD.length/\d.aD.length<=100/\d.Cache.length<=60/\(∀ s∈d.aD,s.size=32)/\∀ w∈d.Cache,0<=w.At/\w.At < (d.aD.length:Int)/\w.Text.size=32
def lq (at_:Int)(s:ByteArray)(ws:List br):ByteArray:=ws.foldl (λs w=>if w.At=at_ then w.Text else s) s
theorem DW {at_:Int}{s:ByteArray}{ws:List br}{i:Nat}{w:br}(h:ws[i]? =some w):lq at_ s (ws.take (i+1))=if w.At=at_ then w.Text else lq at_ s (ws.take i):=by
 rw[aa6,h];simp[lq,abP]
theorem tL {at_:Int}{s:ByteArray}:∀{ws:List br},(∀ w∈ws,w.At≠at_)->lq at_ s ws=s
 | [],_=>rfl
 | w::ws,h=>by
  show lq at_ (if w.At=at_ then w.Text else s) ws=s;rw[if_neg (h w (aa2 ..))];exact tL λx hx=>h x (aaX _ hx)
def fl (secs:List ByteArray)(ws:List br):List ByteArray:=ws.foldl (λs w=>s.set (aaO w.At) w.Text) secs
theorem Ud {secs:List ByteArray}{ws:List br}{i:Nat}{w:br}(h:ws[i]? =some w):fl secs (ws.take (i+1))=(fl secs (ws.take i)).set (aaO w.At) w.Text:=by
 rw[aa6,h];simp[fl,abP]
theorem mv (secs:List ByteArray):∀ ws:List br,(fl secs ws).length=secs.length:=by
 intro ws;unfold fl
 induction ws generalizing secs with
 | nil=>rfl
 | cons w ws ih=>rw[ab1,ih,List.length_set]
theorem U2 {secs:List ByteArray}{ws:List br}(h:∀ s∈secs,s.size=32)(hw:∀ w∈ws,w.Text.size=32):∀ s∈fl secs ws,s.size=32:=by
 induction ws generalizing secs with
 | nil=>exact h
 | cons w ws ih=>
  refine ih (secs:=secs.set (aaO w.At) w.Text) (λs hs=>?_) λx hx=>hw x (aaX _ hx);rcases abW hs with h1 | h1
  ·exact h s h1
  rw[h1];exact hw w (aa2 ..)
def bU (xs:List ByteArray):ByteArray:=xs.foldl (λs x=>s++x) (aaP #[])
theorem Vi {xs:List ByteArray}{i:Nat}{x:ByteArray}(h:xs[i]? =some x):bU (xs.take (i+1))=bU (xs.take i)++x:=by
 rw[aa6,h];simp[bU,abP]
theorem SK (xs:List ByteArray)(x:ByteArray):bU (xs++[x])=bU xs++x:=by simp[bU,abP]
theorem mK {xs:List ByteArray}(h:∀ s∈xs,s.size=32):(bU xs).size=32 * xs.length:=by
 have key:∀(xs:List ByteArray) (a:ByteArray),(∀ s∈xs,s.size=32)->(xs.foldl (λs x=>s++x) a).size=a.size+32 * xs.length:=by
  intro xs
  induction xs with
  | nil=>intro a _;simp
  | cons x xs ih=>
   intro a h;rw[ab1,ih _ λs hs=>h s (aaX _ hs),aaT,h x (aa2 ..),aa5];omega
 have:=key xs (aaP #[]) h;unfold bU;rw[this];show 0+_=_;omega
def xI (secs:List ByteArray)(sec at_:Nat)(t:ByteArray):Nat->Nat->List br
 | 0,_=>[]
 | f+1,i=>if i < t.size then
   ⟨((sec+(at_+i) / 32:Nat):Int),((secs.getD (sec+(at_+i) / 32) zS).extract 0 ((at_+i) % 32)++t.extract i (i+min (t.size - i) (32 - (at_+i) % 32)))++(secs.getD (sec+(at_+i) / 32) zS).extract ((at_+i) % 32+min (t.size - i) (32 - (at_+i) % 32)) (secs.getD (sec+(at_+i) / 32) zS).size⟩::xI secs sec at_ t f (i+min (t.size - i) (32 - (at_+i) % 32))
  else []
def wr (secs:List ByteArray)(sec at_:Nat)(t:ByteArray):List br:=xI secs sec at_ t t.size 0
theorem GL {secs:List ByteArray}{sec at_:Nat}{t:ByteArray}{f i:Nat}(h:t.size<=i):xI secs sec at_ t f i=[]:=by
 cases f with
 | zero=>rfl
 | succ f=>rw[xI,if_neg (by omega)]
theorem Nd (secs:List ByteArray)(sec at_:Nat)(t:ByteArray):∀ f i,(xI secs sec at_ t f i).length<=f
 | 0,_=>abr _
 | f+1,i=>by
  rw[xI];split
  ·rw [aa5];have:=Nd secs sec at_ t f (i+min (t.size - i) (32 - (at_+i) % 32));omega
  exact aaW _
theorem GK {secs:List ByteArray}{sec at_:Nat}{t:ByteArray}(hs:∀ s∈secs,s.size=32):∀{f i:Nat},∀ w∈xI secs sec at_ t f i,(((sec+(at_+i) / 32:Nat):Int)<=w.At/\w.At < ((sec+(at_+t.size+31) / 32:Nat):Int))/\w.Text.size=32
 | 0,i,w,h=>by cases h
 | f+1,i,w,h=>by
  have hz:(secs.getD (sec+(at_+i) / 32) zS).size=32:=by
   rw[aby];cases hq:secs[sec+(at_+i) / 32]? with
   | none=>exact Ce
   | some s=>exact hs s (abx hq)
  rw[xI] at h;split at h
  ·rename_i hlt
   rcases aa9.1 h with rfl | h
   ·refine⟨⟨acp _,by show((sec+(at_+i) / 32:Nat):Int) < _;omega⟩,?_⟩
    simp only[aaT,aa3,hz];omega
   have:=GK hs w h;refine⟨⟨?_,this.1.2⟩,this.2⟩;have:=this.1.1;omega
  cases h
theorem Ry (at_:Int)(s:ByteArray)(a b:List br):lq at_ s (a++b)=lq at_ (lq at_ s a) b:=by simp[lq,abP]
theorem Q4 {at_:Int}{s:ByteArray}{ws:List br}{i:Nat}{w:br}(h:ws[i]? =some w)(hw:w.At=at_)(hn:∀ x∈ws.drop (i+1),x.At≠at_):lq at_ s ws=w.Text:=by
 have h1:=Ry at_ s (ws.take (i+1)) (ws.drop (i+1));rw[abH] at h1;rw[h1,tL hn,DW h,if_pos hw]
theorem U9 {at_:Int}{ws:List br}{i:Nat}{w:br}(h:ws[i]? =some w)(hw:w.At≠at_)(hn:∀ x∈ws.drop (i+1),x.At≠at_):∀ x∈ws.drop i,x.At≠at_:=by
 intro x hx;rw[tR h] at hx;rcases aa9.1 hx with rfl | hx
 ·exact hw
 exact hn x hx
def kI (secs:List ByteArray)(k:Int):ByteArray:=secs.getD (aaO k) zS
theorem Fy {secs:List ByteArray}{k:Int}{s:ByteArray}(h:secs[aaO k]? =some s):kI secs k=s:=by rw[kI,aby,h];rfl
theorem qZ {secs:List ByteArray}(h:∀ s∈secs,s.size=32)(k:Int):(kI secs k).size=32:=by
 rw[kI,aby];cases hq:secs[aaO k]? with
 | none=>exact Ce
 | some s=>exact h s (abx hq)
def piece (secs:List ByteArray)(sec at_:Nat)(t:ByteArray)(i:Nat):br:=
 ⟨((sec+(at_+i) / 32:Nat):Int),((secs.getD (sec+(at_+i) / 32) zS).extract 0 ((at_+i) % 32)++t.extract i (i+min (t.size - i) (32 - (at_+i) % 32)))++(secs.getD (sec+(at_+i) / 32) zS).extract ((at_+i) % 32+min (t.size - i) (32 - (at_+i) % 32)) (secs.getD (sec+(at_+i) / 32) zS).size⟩
def wX (secs:List ByteArray)(sec at_:Nat)(t:ByteArray)(i:Nat)(ws:List br):Prop:=
 i<=t.size/\(∃ f,ws++xI secs sec at_ t f i=wr secs sec at_ t/\t.size - i<=f)/\(i < t.size->∀ w∈ws,w.At < ((sec+(at_+i) / 32:Nat):Int))/\(∀ w∈ws,0<=w.At/\w.At < (secs.length:Int)/\w.Text.size=32)/\ws.length * 32<=at_ % 32+i+31/\(0 < i->i < t.size->(at_+i) % 32=0)/\(i=0->ws=[])
theorem Q7 (secs:List ByteArray)(sec at_:Nat)(t:ByteArray):wX secs sec at_ t 0 []:=
 ⟨aaW _,⟨t.size,rfl,by omega⟩,λ_ w h=>(by cases h),λw h=>(by cases h),by simp,λh=>by omega,λ_=>rfl⟩
theorem IN {secs:List ByteArray}{sec at_:Nat}{t:ByteArray}{i:Nat}{ws:List br}(hs:∀ s∈secs,s.size=32)(hr:sec * 32+at_+t.size<=32 * secs.length)(h:wX secs sec at_ t i ws)(hi:i < t.size):
  wX secs sec at_ t (i+min (t.size - i) (32 - (at_+i) % 32)) (ws++[piece secs sec at_ t i]):=by
 obtain⟨h1,⟨f,h2,hf⟩,h3,h4,h5,h6,h7⟩:=h;have hz:=qZ hs (((sec+(at_+i) / 32:Nat):Int));have hz:(secs.getD (sec+(at_+i) / 32) zS).size=32:=hz;cases f with
 | zero=>omega
 | succ f=>
  have hp:(piece secs sec at_ t i).Text.size=32:=by
   simp only[piece,aaT,aa3,hz];omega
  refine⟨by omega,⟨f,?_,by omega⟩,λhlt w hw=>?_,λw hw=>?_,?_,λ_ hlt=>by omega,λh=>by omega⟩
  ·rw [xI,if_pos hi] at h2
   rw[List.append_assoc];exact h2
  ·rcases aaV.1 hw with hw | hw
   ·have:=h3 hi w hw;omega
   rw[aba.1 hw];show((sec+(at_+i) / 32:Nat):Int) < _;omega
  ·rcases aaV.1 hw with hw | hw
   ·exact h4 w hw
   rw[aba.1 hw];exact⟨by show(0:Int)<=((sec+(at_+i) / 32:Nat):Int);omega,by show((sec+(at_+i) / 32:Nat):Int) < _;omega,hp⟩
  rw[aaY,abM];rcases acq i with h0 | h0
  ·have e0:=h7 h0
   rw[e0];show(0+1) * 32<=_;omega
  have:=h6 h0 hi;omega
theorem LP {secs:List ByteArray}{sec at_:Nat}{t:ByteArray}{i:Nat}{ws:List br}(h:wX secs sec at_ t i ws)(hi:t.size<=i):ws=wr secs sec at_ t:=by
 obtain⟨_,⟨f,h2,_⟩,_⟩:=h;rw[GL hi,abm] at h2;exact h2
theorem Nr {secs:List ByteArray}{sec at_:Nat}{t:ByteArray}{i:Nat}{ws:List br}(h:wX secs sec at_ t i ws)(hd:eM ⟨secs,[]⟩)(ht:t.size<=1600):eM ⟨secs,ws⟩/\ws.length < 60:=by
 obtain⟨d1,d2,_,d4,_⟩:=hd;obtain⟨h1,_,_,h4,h5,_⟩:=h;have:ws.length < 60:=by omega
 exact⟨⟨d1,d2,by show ws.length<=60;omega,d4,h4⟩,this⟩
theorem LN {secs:List ByteArray}{sec at_:Nat}{t:ByteArray}{i:Nat}{ws:List br}{k:Int}{s:ByteArray}(h:wX secs sec at_ t i ws)(hi:i < t.size)(hk:k=((sec+(at_+i) / 32:Nat):Int)):lq k s ws=s:=by
 refine tL λw hw=>?_;have:=h.2.2.1 hi w hw;omega
theorem su {d:bj}(h:eM d):∀ k∈db d,k<=1048576:=by
 obtain⟨h1,h2,h3,h4,h5⟩:=h;intro k hk;simp only[db,bR,dX,aaV,aa9,abf,List.not_mem_nil,or_false] at hk;rcases hk with (rfl | ⟨s,hs,hk⟩) | (rfl | ⟨w,hw,hk⟩)
 ·omega
 ·have h9:=h4 s hs;have hk:=aba.1 hk;omega
 ·omega
 have:=(h5 w hw).2.2;simp[NH] at hk;omega
def i64 (n:Int):Prop:= -9223372036854775808<=n/\n<=9223372036854775807
theorem wrap64 {n:Int}(h:i64 n):IntKind.wrap .i64 n=n:=by
 obtain⟨h1,h2⟩:=h;unfold IntKind.wrap;simp[IntKind.signed,IntKind.bits];omega
theorem Vb {f p:Int}(h:i64 f)(hp:0 < p):i64 (Int.tdiv f p):=by
 obtain⟨h1,h2⟩:=h;have h3:(Int.tdiv f p).natAbs<=f.natAbs:=by rw[Int.natAbs_tdiv];exact Nat.div_le_self _ _
 have h4:0<=f->0<=Int.tdiv f p:=λh=>Int.tdiv_nonneg h (by omega);have h5:f < 0->Int.tdiv f p<=0:=λh=>by
  have:=Int.tdiv_nonneg (a:= -f) (b:=p) (by omega) (by omega);rw[Int.neg_tdiv] at this;omega
 unfold i64;omega
theorem G8 {A:ax}(hA:A=aj)(k:IntKind)(a b:Int):A.num .rem k a b=Int.tmod a b:=by rw[hA];rfl
theorem xM {A:ax}(hA:A=aj){a b:Int}(h:i64 a)(hb:0 < b):A.num .quo .i64 a b=Int.tdiv a b:=by rw[hA];exact wrap64 (Vb h hb)
theorem num_mul {A:ax}(hA:A=aj){a b:Int}(h:i64 (a * b)):A.num .mul .i64 a b=a * b:=by rw[hA];exact wrap64 h
def Hid (p:Prop):Prop:=p
theorem Nq (at_:Nat)(t:ByteArray)(i:Nat)(hi:i < t.size):∃ q r m:Nat,Hid (q=(at_+i) / 32)/\Hid (r=(at_+i) % 32)/\Hid (m=min (t.size - i) (32 - (at_+i) % 32))/\at_+i=32 * q+r/\r < 32/\i+m<=t.size/\m+r<=32/\0 < m/\(i+m=t.size\/m+r=32):=
 ⟨_,_,_,rfl,rfl,rfl,by omega,by omega,by omega,by omega,by omega,by omega⟩
theorem Xm {s:ByteArray}(h:s≠aaP #[]):0 < s.size:=by
 rcases acq s.size with h0 | h0
 ·exact absurd (ByteArray.size_eq_zero_iff.1 h0) h
 exact h0
theorem zero_eq {s:ByteArray}(h:s=aaP #[]):s.size=0:=by rw[h];rfl
theorem S5 {secs:List ByteArray}{k:Int}{F i:Nat}(h:F+i < secs.length)(hk:k=((F+i:Nat):Int)):(secs.drop F)[i]? =some (kI secs k):=by
 rw[List.getElem?_drop,kI,hk,abb,aby,aa7 h];rfl
theorem LK {secs:List ByteArray}{k:Int}{F i:Nat}(h:F+i < secs.length)(hk:k=((F+i:Nat):Int)):bU ((secs.drop F).take (i+1))=bU ((secs.drop F).take i)++kI secs k:=Vi (S5 h hk)
theorem mM {secs:List ByteArray}(h:∀ s∈secs,s.size=32)(F i:Nat):(bU ((secs.drop F).take i)).size<=32 * i:=by
 rw[mK λs hs=>h s (List.mem_of_mem_drop (List.mem_of_mem_take hs)),aa1];omega
theorem Xo {t:ByteArray}{i n:Nat}(h:i+n<=t.size):(t.extract i t.size).extract 0 n=t.extract i (i+n):=by
 rw[abq,ack,acs (by omega)]
theorem Xp {t:ByteArray}{i n k:Nat}(hk:t.size<=i+k):(t.extract i t.size).extract n k=t.extract (i+n) t.size:=by
 rw[abq,Nat.min_eq_right hk]
theorem LO {secs:List ByteArray}{sec at_:Nat}{t:ByteArray}{i m f:Nat}{k:Int}{eJ a b c:ByteArray}(hk:k=((sec+(at_+i) / 32:Nat):Int))(ho:eJ=kI secs k)(hf:f=(at_+i) % 32)(hm:m=min (t.size - i) (32 - (at_+i) % 32))
  (ha:a=eJ.extract 0 f) (hb:b=t.extract i (i+m)) (hc:c=eJ.extract (f+m) eJ.size):(⟨k,(a++b)++c⟩:br)=piece secs sec at_ t i:=by
 have e:eJ=secs.getD (sec+(at_+i) / 32) zS:=by rw[ho,kI,hk,abb]
 subst ha hb hc hf hm hk;rw[e];rfl
theorem join_cons (x:ByteArray)(xs:List ByteArray):bU (x::xs)=x++bU xs:=by
 have key:∀(xs:List ByteArray) (a:ByteArray),xs.foldl (λs x=>s++x) a=a++bU xs:=by
  intro xs
  induction xs with
  | nil=>intro a;exact acn.symm
  | cons y ys ih=>
   intro a;rw[ab1,ih,show bU (y::ys)=ys.foldl (λs x=>s++x) (aaP #[]++y) from rfl,ih];rw[show aaP #[]++y=y from abw,abl]
 rw[show bU (x::xs)=xs.foldl (λs x=>s++x) (aaP #[]++x) from rfl,key,show aaP #[]++x=x from abw]
theorem join_append (xs ys:List ByteArray):bU (xs++ys)=bU xs++bU ys:=by
 induction xs with
 | nil=>exact abw.symm
 | cons x xs ih=>rw[List.cons_append,join_cons,join_cons,ih,abl]
theorem yT {secs:List ByteArray}(h:∀ s∈secs,s.size=32){F n:Nat}(hl:F+n<=secs.length):bU ((secs.drop F).take n)=(bU secs).extract (32 * F) (32 * F+32 * n):=by
 have e:secs=secs.take F++((secs.drop F).take n++(secs.drop F).drop n):=by rw[abH,abH]
 have h1:(bU (secs.take F)).size=32 * F:=by rw[mK λs hs=>h s (List.mem_of_mem_take hs),aa1,acs (by omega)]
 have h2:(bU ((secs.drop F).take n)).size=32 * n:=by rw[mK λs hs=>h s (List.mem_of_mem_drop (List.mem_of_mem_take hs)),aa1,abo,acs (by omega)]
 have e2:bU secs=bU (secs.take F)++(bU ((secs.drop F).take n)++bU ((secs.drop F).drop n)):=by rw[<- join_append,<- join_append,<- e]
 rw[e2,abZ,h1,show(bU (secs.take F)).extract (32 * F) (32 * F+32 * n)=aaM from by rw[abO,h1];omega,abw,Nat.sub_self,Nat.add_sub_cancel_left];exact(abS h2.symm).symm
def fb (b:ByteArray)(o:Nat)(t:ByteArray):ByteArray:=b.extract 0 o++t++b.extract (o+t.size) b.size
theorem I3 {b:ByteArray}{o:Nat}{t:ByteArray}(h:o+t.size<=b.size):(fb b o t).size=b.size:=by
 simp only[fb,aaT,aa3];omega
theorem S6 {b:ByteArray}{o:Nat}(h:o<=b.size):fb b o aaM=b:=by
 unfold fb;rw[acn,show o+aaM.size=o from rfl,<- abA o (aaW _) h,ab4]
theorem Rz {b:ByteArray}{o:Nat}{s t:ByteArray}(h:o+s.size+t.size<=b.size):fb (fb b o s) (o+s.size) t=fb b o (s++t):=by
 have h1:(b.extract 0 o++s).size=o+s.size:=by rw[aaT,aa3];omega
 have e1:(fb b o s).extract 0 (o+s.size)=b.extract 0 o++s:=abS h1.symm;have hz:=I3 (b:=b) (o:=o) (t:=s) (by omega);have e2:(fb b o s).extract (o+s.size+t.size) (fb b o s).size=b.extract (o+(s++t).size) b.size:=by
  rw[hz];unfold fb;rw[abZ,h1,show(b.extract 0 o++s).extract (o+s.size+t.size) b.size=aaM from by rw[abO,h1];omega,abw,abq,aaT];rw[show o+s.size+(o+s.size+t.size - (o+s.size))=o+(s.size+t.size) by omega,show min (o+s.size+(b.size - (o+s.size))) b.size=b.size by omega]
 rw[show fb (fb b o s) (o+s.size) t=(fb b o s).extract 0 (o+s.size)++t++(fb b o s).extract (o+s.size+t.size) (fb b o s).size from rfl,e1,e2];unfold fb;rw[abl (a:=b.extract 0 o)]
theorem S7 {secs:List ByteArray}(h:∀ s∈secs,s.size=32){k:Nat}(hk:k < secs.length){s:ByteArray}(hs:s.size=32):bU (secs.set k s)=fb (bU secs) (32 * k) s:=by
 have e:secs.set k s=secs.take k++(s::secs.drop (k+1)):=by rw[List.set_eq_take_append_cons_drop,if_pos hk]
 have e1:=yT h (F:=0) (n:=k) (by omega);rw[List.drop_zero,Nat.mul_zero,abj] at e1;have e2:=yT h (F:=k+1) (n:=secs.length - (k+1)) (by omega);rw[List.take_of_length_le (by rw[abo];omega)] at e2;rw[e,join_append,join_cons,e1,e2];unfold fb;rw[hs,mK h,abl,show 32 * (k+1)=32 * k+32 by omega,show 32 * k+32+32 * (secs.length - (k+1))=32 * secs.length by omega]
theorem Vj {b:ByteArray}{o n r:Nat}{p:ByteArray}(h1:o+n<=b.size)(h2:r+p.size<=n):fb b o (fb (b.extract o (o+n)) r p)=fb b (o+r) p:=by
 have hz:(b.extract o (o+n)).size=n:=by rw[aa3];omega
 have e1:(b.extract o (o+n)).extract 0 r=b.extract o (o+r):=by rw[abq,ack,acs (by omega)]
 have e2:(b.extract o (o+n)).extract (r+p.size) n=b.extract (o+(r+p.size)) (o+n):=by rw[abq,Nat.min_self]
 have e3:(fb (b.extract o (o+n)) r p).size=n:=by rw[I3 (by rw[hz];omega),hz]
 rw[show fb b o (fb (b.extract o (o+n)) r p)=b.extract 0 o++fb (b.extract o (o+n)) r p++b.extract (o+(fb (b.extract o (o+n)) r p).size) b.size from rfl,e3];unfold fb;rw[hz,e1,e2,<- abl,<- abl,<- abA o (aaW _) (by omega),abl,<- abA (o+n) (by omega) h1,aco]
theorem S8 {S:List ByteArray}(h:∀ s∈S,s.size=32){k:Nat}(hk:k < S.length):S.getD k zS=(bU S).extract (32 * k) (32 * k+32):=by
 have e:=yT h (F:=k) (n:=1) (by omega);rw[Nat.mul_one] at e;rw[<- e,tR (aa7 hk),aby,aa7 hk];show _=bU [S[k]];rw[join_cons];exact acn.symm
theorem I4 {secs:List ByteArray}(hs:∀ s∈secs,s.size=32){sec at_:Nat}{t:ByteArray}(hr:32 * sec+at_+t.size<=32 * secs.length):∀(f i:Nat) (S:List ByteArray),S.length=secs.length->(∀ s∈S,s.size=32)->i<=t.size->t.size - i<=f->
  (∀ k,i < t.size->sec+(at_+i) / 32<=k->S.getD k zS=secs.getD k zS)->(0 < i->i < t.size->(at_+i) % 32=0)->bU (fl S (xI secs sec at_ t f i))=fb (bU S) (32 * sec+at_+i) (t.extract i t.size)
 | f,i,S,hl,hS,hi,hf,hk,hm=>by
  rcases Nat.lt_or_ge i t.size with h1 | h1
  ·cases f with
   | zero=>omega
   | succ f=>
    rw[xI,if_pos h1];generalize hM:min (t.size - i) (32 - (at_+i) % 32)=m;generalize hK:sec+(at_+i) / 32=k;generalize hR:(at_+i) % 32=r;have hkl:k < S.length:=by omega
    have hg:=S8 hS hkl;have hjS:=mK hS;have hp:(t.extract i (i+m)).size=m:=by rw[aa3];omega
    have hold:(secs.getD k zS).size=32:=by
     rw[<- hk k h1 (by omega),hg,aa3];omega
    have hw:(secs.getD k zS).extract 0 r++t.extract i (i+m)++(secs.getD k zS).extract (r+m) (secs.getD k zS).size=fb ((bU S).extract (32 * k) (32 * k+32)) r (t.extract i (i+m)):=by
     rw[<- hg,hk k h1 (by omega)];unfold fb;rw[hp]
    have hwz:((secs.getD k zS).extract 0 r++t.extract i (i+m)++(secs.getD k zS).extract (r+m) (secs.getD k zS).size).size=32:=by
     simp only[aaT,aa3,hold];omega
    rw[show ∀(w:br) (ws:List br),fl S (w::ws)=fl (S.set (aaO w.At) w.Text) ws from λ_ _=>rfl];show bU (fl (S.set (aaO (k:Int)) _) _)=_;rw[abb];rw[I4 hs hr f (i+m) _ (by rw[List.length_set,hl]) (λs h=>?_) (by omega) (by omega) (λq hq hkq=>?_) (λ_ _=>by omega)]
    ·rw [S7 hS hkl hwz,hw,Vj (by omega) (by rw[hp];omega)]
     rw[show 32 * sec+at_+(i+m)=(32 * k+r)+(t.extract i (i+m)).size by rw[hp];omega,Rz (by rw[hp,aa3];omega)];rw[<- abA (i+m) (by omega) (by omega),show 32 * k+r=32 * sec+at_+i by omega]
    ·rcases abW h with h | h
     ·exact hS s h
     rw[h];exact hwz
    have:k≠q:=by omega
    rw[aby,List.getElem?_set,if_neg this,<- aby];exact hk q h1 (by omega)
  rw[GL h1,show t.extract i t.size=aaM from by rw[abO];omega,S6 (by rw[mK hS];omega)];rfl
theorem QU {secs:List ByteArray}(hs:∀ s∈secs,s.size=32){sec at_:Nat}{t:ByteArray}(hr:32 * sec+at_+t.size<=32 * secs.length):bU (fl secs (wr secs sec at_ t))=fb (bU secs) (32 * sec+at_) t:=by
 have h:=I4 hs hr t.size 0 secs rfl hs (aaW _) (by omega) (λ_ _ _=>rfl) (λh=>by omega);rw[ack,ab4] at h;exact h
end Go.Av
namespace Go.Av
open Go
set_option linter.unusedVariables false
set_option linter.unusedSimpArgs false
set_option maxRecDepth 100000
theorem Pg :∀ k:Fin 128,aj.num .and .i64 ((k.val:Nat):Int) 127=((k.val:Nat):Int):=by decide
theorem Vf :∀ k:Fin 128,aj.num .or .i64 0 ((k.val:Nat):Int)=((k.val:Nat):Int):=by decide
theorem Xr {A:ax}(hA:A=aj){x:Int}(h0:0<=x)(h1:x < 128):A.num .and .i64 x 127=x:=by
 have h:=Pg ⟨x.toNat,by omega⟩;rw[show((x.toNat:Nat):Int)=x from abN h0] at h;rw[hA];exact h
theorem or0 {A:ax}(hA:A=aj){x:Int}(h0:0<=x)(h1:x < 128):A.num .or .i64 0 x=x:=by
 have h:=Vf ⟨x.toNat,by omega⟩;rw[show((x.toNat:Nat):Int)=x from abN h0] at h;rw[hA];exact h
theorem wu (t:ByteArray)(i:Int):0<=bc t i/\bc t i < 256:=by
 unfold bc;split
 ·rename_i b _;have:=b.toNat_lt;omega
 omega
theorem Cg {A:ax}(hA:A=aj){x:Int}(h:i64 x):A.cw .i64 x=x:=by rw[hA];exact wrap64 h
theorem LU {A:ax}(hA:A=aj){x:Int}(h0:0<=x)(h1:x < 256):A.cw .u8 x=x:=by
 rw[hA];show IntKind.wrap .u8 x=x;unfold IntKind.wrap;simp[IntKind.signed,IntKind.bits];omega
theorem Vc {A:ax}(hA:A=aj){x:Int}(h0:0<=x)(h1:x < 128):cn A x=[x]:=by
 rw[cn,B5 (by omega),LU hA h0 (by omega)]
theorem Nt {A:ax}(hA:A=aj){x:Int}(h0:0<=x)(h1:x < 128):dp A x=[x]:=by
 rw[dp,B5 (by omega),LU hA h0 (by omega)]
theorem Va {t:ByteArray}{i:Nat}(h:i < t.size):t.extract i (i+1)=strOfNums [bc t (i:Int)]:=by
 rw[ByteArray.extract_add_one (by omega)];unfold bc;rw[abb,getElem?_pos t i h];show [t[i]].toByteArray=strOfNums [((t[i].toNat:Nat):Int)];refine ByteArray.ext ?_;rw[List.data_toByteArray];simp[strOfNums]
theorem Pd {t:ByteArray}{a b i:Nat}(h:a+i < b)(hb:b<=t.size):bc (t.extract a b) (i:Int)=bc t ((a+i:Nat):Int):=by
 have h1:i < (t.extract a b).size:=by rw[aa3];omega
 unfold bc;rw[abb,abb,getElem?_pos (t.extract a b) i h1,getElem?_pos t (a+i) (by omega),ByteArray.getElem_extract]
theorem Pe {n:Int}{s:ByteArray}(h0:0<=n)(h1:n < 256):bc (strOfNums [n]++s) 0=n:=by
 unfold bc;have hz:(strOfNums [n]).size=1:=bg _;have hs:0 < (strOfNums [n]++s).size:=by rw[aaT,hz];omega
 rw[show(0:Int).toNat=0 from rfl,getElem?_pos (strOfNums [n]++s) 0 hs,ByteArray.getElem_append_left (by rw[hz];omega)];show(((strOfNums [n])[0]'(by rw[hz];omega)).toNat:Int)=n;show(((UInt8.ofNat n.toNat).toNat:Nat):Int)=n;rw[UInt8.toNat_ofNat'];omega
def qV (v:Int->List Int):Prop:=∀ x:Int,0<=x->x < 128->v x=[x]
theorem iP {A:ax}(hA:A=aj):qV (cn A):=λx h0 h1=>Vc hA h0 h1
theorem nC {A:ax}(hA:A=aj):qV (dp A):=λx h0 h1=>Nt hA h0 h1
def fN (f:aC):Prop:=1<=f.jy/\f.jy < 128/\1<=f.Seq/\f.Seq < 128/\1<=f.Body.size/\f.Body.size < 128
def hC (f:aC):Nat:=f.Body.size+7
def xS (t:ByteArray)(p:Nat)(F:ByteArray):Prop:=p+F.size<=t.size/\t.extract p (p+F.size)=F
theorem oB {f:aC}(h:fN f):cU f=true:=by
 obtain⟨h1,h2,h3,h4,h5,h6⟩:=h;simp only[cU,dm,aaR,decide_eq_true_eq];omega
theorem OX {x y:ByteArray}{i:Nat}(h:i < y.size):bc (x++y) ((x.size+i:Nat):Int)=bc y (i:Int):=by
 unfold bc;have h1:x.size+i < (x++y).size:=by rw[aaT];omega
 rw[abb,abb,getElem?_pos (x++y) (x.size+i) h1,getElem?_pos y i h,ByteArray.getElem_append_right (by omega)];simp only[Nat.add_sub_cancel_left]
theorem Vd {t F:ByteArray}{p i:Nat}(h:xS t p F)(hi:i < F.size):bc t ((p+i:Nat):Int)=bc F (i:Int):=by
 have h1:=Pd (t:=t) (a:=p) (b:=p+F.size) (i:=i) (by omega) h.1;rw[h.2] at h1;exact h1.symm
theorem Rj {t F:ByteArray}{p i j:Nat}(h:xS t p F)(hj:j<=F.size):t.extract (p+i) (p+j)=F.extract i j:=by
 have h1:(t.extract p (p+F.size)).extract i j=t.extract (p+i) (p+j):=by rw[abq,acs (by omega)]
 rw[h.2] at h1;exact h1.symm
theorem kC {t F G:ByteArray}{p:Nat}:xS t p (F++G)↔xS t p F/\xS t (p+F.size) G:=by
 constructor
 ·intro h
  have hz:=h.1;rw[aaT] at hz;refine⟨⟨by omega,?_⟩,⟨by omega,?_⟩⟩
  ·have:=Rj (i:=0) (j:=F.size) h (by rw[aaT];omega)
   rw[ack] at this;rw[this];exact abS rfl
  have:=Rj (i:=F.size) (j:=F.size+G.size) h (by rw[aaT];omega);rw[aco,this];exact ByteArray.extract_append_eq_right rfl rfl
 intro ⟨h1,h2⟩;refine⟨by rw[aaT];have:=h2.1;omega,?_⟩;rw[aaT,abA (p+F.size) (by omega) (by omega),h1.2,<- aco,h2.2]
theorem GP (t:ByteArray):xS t 0 t:=⟨by omega,by rw[abj];exact ab4⟩
theorem at_one {t:ByteArray}{p:Nat}{n:Int}(h:xS t p (strOfNums [n]))(h0:0<=n)(h1:n < 256):bc t (p:Int)=n:=by
 have hz:(strOfNums [n]).size=1:=bg _;have h2:=Vd (i:=0) h (by omega);rw[ack] at h2;rw[h2];have h3:=Pe (s:=aaM) h0 h1;rw[acn] at h3;exact h3
theorem qW {v:Int->List Int}(hv:qV v){f:aC}(h:fN f):nN v f=strOfNums [f.jy]++(strOfNums [f.Seq]++(strOfNums [(f.Body.size:Int)]++f.Body)):=by
 obtain⟨h1,h2,h3,h4,h5,h6⟩:=h;unfold nN;rw[hv f.jy (by omega) (by omega),hv f.Seq (by omega) (by omega),hv (f.Body.size:Int) (by omega) (by omega),abl,abl]
theorem oA {A:ax}{v:Int->List Int}{s:Int->Int}(hv:qV v){f:aC}(h:fN f):gi A v s f=strOfNums [f.jy]++(strOfNums [f.Seq]++(strOfNums [(f.Body.size:Int)]++(f.Body++oM A s (nN v f))))/\(gi A v s f).size=hC f:=by
 have hb:=qW hv h;have hz:(nN v f).size=f.Body.size+3:=by
  rw[hb];simp only[aaT,bg,abM];omega
 have e:gi A v s f=nN v f++oM A s (nN v f):=by
  unfold gi iK;rw[if_pos (oB h),if_neg (by obtain⟨_,_,_,_,_,h6⟩:=h;omega)]
 refine⟨?_,?_⟩
 ·rw [e]
  generalize oM A s (nN v f)=q;rw[hb];simp only[abl]
 rw[e,aaT,mF,hz];rfl
theorem LQ {A:ax}{v:Int->List Int}{s:Int->Int}(hv:qV v){f:aC}(h:fN f){t:ByteArray}{p:Nat}(ht:xS t p (gi A v s f)):
  bc t (p:Int)=f.jy/\bc t ((p+1:Nat):Int)=f.Seq/\bc t ((p+2:Nat):Int)=(f.Body.size:Int)/\t.extract (p+3) (p+3+f.Body.size)=f.Body/\t.extract p (p+hC f)=gi A v s f/\p+hC f<=t.size:=by
 obtain⟨e,hz⟩:=oA (A:=A) (s:=s) hv h;have h0:=ht;obtain⟨h1,h2,h3,h4,h5,h6⟩:=h;have z1:∀ n:Int,(strOfNums [n]).size=1:=λn=>bg _;rw[e] at ht;obtain⟨a1,ht⟩:=kC.1 ht;obtain⟨a2,ht⟩:=kC.1 ht;obtain⟨a3,ht⟩:=kC.1 ht;obtain⟨a4,ht⟩:=kC.1 ht;simp only[z1] at a2 a3 a4;refine⟨at_one a1 (by omega) (by omega),at_one a2 (by omega) (by omega),at_one a3 (by omega) (by omega),a4.2,?_,?_⟩
 ·rw [<- hz];exact h0.2
 rw[<- hz];exact h0.1
def fU (A:ax)(v:Int->List Int)(s:Int->Int)(t:ByteArray):List aC->Nat->Nat->Prop
 | [],p,e=>p=e/\p+7<=t.size/\bc t (p:Int)=0/\bc t ((p+1:Nat):Int)=0/\bc t ((p+2:Nat):Int)=0
 | f::fs,p,e=>fN f/\f.jy=1/\xS t p (gi A v s f)/\fU A v s t fs (p+hC f) e
theorem tX {A:ax}{v:Int->List Int}{s:Int->Int}{t:ByteArray}:∀{fs:List aC} {p e:Nat},fU A v s t fs p e->p<=e/\e+7<=t.size/\p+7 * fs.length<=e
 | [],p,e,⟨h1,h2,_⟩=>by simp;omega
 | f::fs,p,e,⟨h1,_,_,h2⟩=>by
  have:=tX h2;have hf:hC f=f.Body.size+7:=rfl;simp only[aa5];omega
theorem Nu {A:ax}{v:Int->List Int}{s:Int->Int}{t:ByteArray}{fs:List aC}{i p e:Nat}(h:fU A v s t (fs.drop i) p e)(hi:i < fs.length):∃ f,fs[i]? =some f/\fN f/\f.jy=1/\xS t p (gi A v s f)/\fU A v s t (fs.drop (i+1)) (p+hC f) e:=by
 have hq:fs[i]? =some fs[i]:=aa7 hi;rw[tR hq] at h;obtain⟨h1,h2,h3,h4⟩:=h;exact⟨_,hq,h1,h2,h3,h4⟩
theorem LR {A:ax}{v:Int->List Int}{s:Int->Int}{t:ByteArray}{fs:List aC}{i p e:Nat}(h:fU A v s t (fs.drop i) p e)(hi:fs.length<=i):p=e/\p+7<=t.size/\bc t (p:Int)=0/\bc t ((p+1:Nat):Int)=0/\bc t ((p+2:Nat):Int)=0:=by
 rw[abk hi] at h;exact h
def lJ (r:aE):Prop:=bH r=true/\r.Valid < 128/\r.dG < 128/\r.Next < 128/\r.Flags < 128/\r.cv.size < 128/\r.Name.size < 128/\r.Text.size < 128
theorem y3 {r:aE}(h:bH r=true):1<=r.Kind/\r.Kind<=5:=by
 simp only[bH,dm,aaR,abU,decide_eq_true_eq] at h;omega
theorem Ve {A:ax}(hA:A=aj){k:Int}(h0:0<=k)(h1:k < 256):A.uw [[.int .u8 (A.cw .u8 k)]]=strOfNums [k]:=by
 rw[LU hA h0 h1,hA];rfl
theorem vU {A:ax}(hA:A=aj){v:Int->List Int}(hv:qV v){r:aE}(h:lJ r):
  pI A v r=strOfNums [r.Kind]++(strOfNums [r.Valid]++(strOfNums [r.dG]++(strOfNums [r.Next]++(strOfNums [r.Flags]++(strOfNums [(r.cv.size:Int)]++(r.cv++(strOfNums [(r.Name.size:Int)]++(r.Name++(strOfNums [(r.Text.size:Int)]++r.Text))))))))):=by
 obtain⟨h0,h1,h2,h3,h4,h5,h6,h7⟩:=h;have hk:=y3 h0;have hg:=rH h0;simp only[pI,tG,tF,ab1,List.foldl_nil];rw[Ve hA (by omega) (by omega),hv r.Valid (by omega) h1,hv r.dG (by omega) h2,hv r.Next (by omega) h3,hv r.Flags (by omega) h4,hv (r.cv.size:Int) (by omega) (by omega),hv (r.Name.size:Int) (by omega) (by omega),hv (r.Text.size:Int) (by omega) (by omega)];simp only[abl]
theorem Rg {A:ax}(hA:A=aj){v:Int->List Int}(hv:qV v){r:aE}(h:lJ r){t:ByteArray}(ht:pI A v r=t):
  bc t 0=r.Kind/\bc t 1=r.Valid/\bc t 2=r.dG/\bc t 3=r.Next/\bc t 4=r.Flags/\bc t 5=(r.cv.size:Int)/\t.extract 6 (6+r.cv.size)=r.cv/\bc t (6+(r.cv.size:Int))=(r.Name.size:Int)/\t.extract (7+r.cv.size) (7+r.cv.size+r.Name.size)=r.Name/\
   bc t (7+(r.cv.size:Int)+(r.Name.size:Int))=(r.Text.size:Int)/\t.extract (8+r.cv.size+r.Name.size) (8+r.cv.size+r.Name.size+r.Text.size)=r.Text/\t.size=8+r.cv.size+r.Name.size+r.Text.size:=by
 have e:=vU hA hv h;rw[ht] at e;obtain⟨h0,h1,h2,h3,h4,h5,h6,h7⟩:=h;have hk:=y3 h0;have hg:=rH h0;have z1:∀ n:Int,(strOfNums [n]).size=1:=λn=>bg _;have hz:t.size=8+r.cv.size+r.Name.size+r.Text.size:=by
  rw[e];simp only[aaT,z1];omega
 have ht:=GP t;generalize hu:t=u at ht;rw[e] at hu;have ht2:xS u 0 (strOfNums [r.Kind]++(strOfNums [r.Valid]++(strOfNums [r.dG]++(strOfNums [r.Next]++(strOfNums [r.Flags]++(strOfNums [(r.cv.size:Int)]++(r.cv++(strOfNums [(r.Name.size:Int)]++(r.Name++(strOfNums [(r.Text.size:Int)]++r.Text)))))))))):=by
  rw[hu];exact GP u
 clear ht;obtain⟨a0,ht⟩:=kC.1 ht2;obtain⟨a1,ht⟩:=kC.1 ht;obtain⟨a2,ht⟩:=kC.1 ht;obtain⟨a3,ht⟩:=kC.1 ht;obtain⟨a4,ht⟩:=kC.1 ht;obtain⟨a5,ht⟩:=kC.1 ht;obtain⟨a6,ht⟩:=kC.1 ht;obtain⟨a7,ht⟩:=kC.1 ht;obtain⟨a8,ht⟩:=kC.1 ht;obtain⟨a9,oC⟩:=kC.1 ht;simp only[z1,abj,Nat.reduceAdd] at a0 a1 a2 a3 a4 a5 a6 a7 a8 a9 oC;have hzu:u.size=8+r.cv.size+r.Name.size+r.Text.size:=by rw[<- hu];rw[<- e];exact hz
 refine⟨at_one a0 (by omega) (by omega),at_one a1 (by omega) (by omega),at_one a2 (by omega) (by omega),at_one a3 (by omega) (by omega),at_one a4 (by omega) (by omega),at_one a5 (by omega) (by omega),a6.2,?_,?_,?_,?_,hzu⟩
 ·have:=at_one a7 (by omega) (by omega)
  rw[show(6+(r.cv.size:Int))=((6+r.cv.size:Nat):Int) by omega];exact this
 ·have:=a8.2
  rw[show 7+r.cv.size=6+r.cv.size+1 by omega];exact this
 ·have:=at_one a9 (by omega) (by omega)
  rw[show(7+(r.cv.size:Int)+(r.Name.size:Int))=((6+r.cv.size+1+r.Name.size:Nat):Int) by omega];exact this
 have:=oC.2;rw[show 8+r.cv.size+r.Name.size=6+r.cv.size+1+r.Name.size+1 by omega];exact this
def uS :aC:=⟨1,1,aaP #[115,101,103]⟩
def xK (A:ax)(v:Int->List Int)(x:ae):Prop:=lJ x.Rec/\fN (mG A v x 1)
theorem Pf {A:ax}{v:Int->List Int}{x:ae}(h:xK A v x):pI A v x.Rec=(mG A v x 1).Body:=by
 show pI A v x.Rec=dB A v x.Rec;rw[dB,if_pos h.1.1]
def eX (A:ax)(v:Int->List Int)(xs:List ae):List aC:=xs.map λx=>mG A v x 1
def ke (secs:List ByteArray)(seg:Int):ByteArray:=bU (List.take (aaO 8) (List.drop (aaO (8+seg * 8)) secs))
def JT (A:ax)(v:Int->List Int)(st:Int->Int)(d:bj)(s:bu):Prop:=
 0<=s.No/\s.No<=10/\16+s.No * 8<=(d.aD.length:Int)/\s.jy=1/\0<=s.End/\fU A v st (ke d.aD s.No) (uS::eX A v s.ka) 0 (aaO s.End)/\∀ x∈s.ka,xK A v x
theorem map_some {α β:Type}{f:α->β}{xs:List α}{i:Nat}{y:β}(h:(xs.map f)[i]? =some y):∃ x,xs[i]? =some x/\y=f x:=by
 rw[List.getElem?_map] at h;obtain⟨x,h1,h2⟩:=Option.map_eq_some_iff.1 h;exact⟨x,h1,h2.symm⟩
theorem IU {A:ax}{v:Int->List Int}{xs:List ae}{i:Nat}{f:aC}(hs:∀ x∈xs,xK A v x)(h:(eX A v xs)[i]? =some f):∃ x,xs[i]? =some x/\lJ x.Rec/\fN f/\pI A v x.Rec=f.Body/\f.Seq=x.Seq:=by
 obtain⟨x,hx,rfl⟩:=map_some h;have hI:=hs _ (abx hx);exact⟨x,hx,hI.1,hI.2,Pf hI,rfl⟩
def u32 (n:Int):Prop:=0<=n/\n < 4294967296
theorem wrap_u32 (n:Int):u32 (IntKind.wrap .u32 n):=by
 unfold u32 IntKind.wrap;simp[IntKind.signed,IntKind.bits];omega
theorem C4 {n:Int}(h:u32 n):IntKind.wrap .u32 n=n:=by
 obtain⟨h1,h2⟩:=h;unfold IntKind.wrap;simp[IntKind.signed,IntKind.bits];omega
theorem Nh (a b:Int):u32 (aj.num .xor .u32 a b):=wrap_u32 _
theorem SP {s:Int}(h:u32 s):aj.num .and .u32 s 1=s % 2:=by
 obtain⟨h1,h2⟩:=h;obtain⟨n,rfl⟩:∃ n:Nat,s=(n:Int):=⟨s.toNat,by omega⟩;show IntKind.wrap .u32 ((BitVec.ofInt 32 (n:Int) &&& BitVec.ofInt 32 1).toNat:Int)=_;rw[BitVec.ofInt_natCast,BitVec.toNat_and,show(BitVec.ofInt 32 1).toNat=1 from rfl,BitVec.toNat_ofNat,Nat.and_one_is_mod,C4 ⟨by omega,by omega⟩];omega
theorem U0 {s:Int}(h:u32 s):fL aj s=iw aj s/\u32 (fL aj s):=by
 have h1:acr s (2 ^ aaO 1)=s / 2:=by
  rw[Int.fdiv_eq_ediv_of_nonneg _ (by decide)];rfl
 have h2:aj.num .quo .u32 s 2=s / 2:=by
  show IntKind.wrap .u32 (Int.tdiv s 2)=_;rw[Int.tdiv_eq_ediv_of_nonneg h.1,C4 ⟨by have:=h.1;omega,by have:=h.2;omega⟩]
 have h3:aj.num .rem .u32 s 2=s % 2:=by
  show Int.tmod s 2=_;exact Int.tmod_eq_emod_of_nonneg h.1
 unfold fL iw;rw[h1,h2,h3,SP h];refine⟨rfl,?_⟩;split
 ·exact Nh _ _
 obtain⟨h4,h5⟩:=h;exact⟨by omega,by omega⟩
theorem Lw :∀(n:Nat) {s:Int},u32 s->rl (fL aj) n s=rl (iw aj) n s/\u32 (rl (fL aj) n s)
 | 0,s,h=>⟨rfl,h⟩
 | n+1,s,h=>by
  obtain⟨h1,h2⟩:=U0 h;obtain⟨h3,h4⟩:=Lw n h2;exact⟨by show rl _ n (fL aj s)=rl _ n (iw aj s);rw[<- h1,h3],h4⟩
theorem Lx {t:ByteArray}:∀(n i:Nat) {s:Int},u32 s->uF aj (fL aj) t i n s=uF aj (iw aj) t i n s
 | 0,i,s,h=>rfl
 | n+1,i,s,h=>by
  obtain⟨h3,h4⟩:=Lw 8 (Nh s (aj.cw .u32 (bc t (i:Int))));show uF aj _ t (i+1) n (rl (fL aj) 8 _)=uF aj _ t (i+1) n (rl (iw aj) 8 _);rw[<- h3];exact Lx n (i+1) h4
theorem IH {A:ax}(hA:A=aj)(t:ByteArray):oM A (iw A) t=oM A (fL A) t:=by
 subst hA;unfold oM AZ;rw[Lx t.size 0 ⟨by decide,by decide⟩]
theorem GM {A:ax}(hA:A=aj){f:aC}(h:fN f):gi A (dp A) (iw A) f=gi A (cn A) (fL A) f:=by
 rw[(oA (nC hA) h).1,(oA (iP hA) h).1,IH hA,qW (nC hA) h,qW (iP hA) h]
theorem DP {A:ax}(hA:A=aj){r:aE}(h:lJ r):dB A (dp A) r=dB A (cn A) r:=by
 unfold dB;rw[if_pos h.1,if_pos h.1,vU hA (nC hA) h,vU hA (iP hA) h]
theorem U1 {t:ByteArray}{k:Nat}(h:t.size<=k):t.extract 0 k=t:=by
 have:=ab4 (b:=t);refine ByteArray.ext ?_;rw[ByteArray.data_extract];exact Array.extract_eq_self_of_le h
theorem Ni {α:Type}(a b:Nat)(x:α):aa0 (a+b) x=aa0 a x++aa0 b x:=List.replicate_append_replicate.symm
theorem Ly (xs ys:List Int):strOfNums (xs++ys)=strOfNums xs++strOfNums ys:=by
 refine ByteArray.ext ?_;simp[strOfNums]
def iM (n:Nat):ByteArray:=strOfNums (aa0 n 0)
theorem pK (n:Nat):(iM n).size=n:=by rw[iM,bg,abY]
theorem SQ {b t:ByteArray}{p o n:Nat}(h:p+t.size<=o)(hb:o+n<=b.size):(fb b p t).extract o (o+n)=b.extract o (o+n):=by
 have h1:(b.extract 0 p++t).size=p+t.size:=by rw[aaT,aa3];omega
 unfold fb;rw[abZ,h1,show(b.extract 0 p++t).extract o (o+n)=aaM from by rw[abO,h1];omega,abw,abq];rw[show p+t.size+(o - (p+t.size))=o by omega,show min (p+t.size+(o+n - (p+t.size))) b.size=o+n by omega]
theorem SR {b t:ByteArray}{p o n:Nat}(h:o<=p)(h2:p+t.size<=o+n)(hb:o+n<=b.size):(fb b p t).extract o (o+n)=fb (b.extract o (o+n)) (p - o) t:=by
 have h1:(b.extract 0 p++t).size=p+t.size:=by rw[aaT,aa3];omega
 have h3:(b.extract 0 p).size=p:=by rw[aa3];omega
 have h4:(b.extract o (o+n)).size=n:=by rw[aa3];omega
 unfold fb;rw[abZ,h1,abZ,h3,abq,abq,h4,abq,abq];rw[show o - p=0 by omega,show o - (p+t.size)=0 by omega];rw[show t.extract 0 (o+n - p)=t from U1 (by omega)];simp only[abj,ack];rw[show min (o+n) p=p by omega,show min (p+t.size+(o+n - (p+t.size))) b.size=o+n by omega,show min (o+(p - o)) (o+n)=p by omega,show o+(p - o+t.size)=p+t.size by omega,show min (o+n) (o+n)=o+n by omega]
theorem IE {x t:ByteArray}{k:Nat}(h:t.size<=k):fb (x++iM k) x.size t=(x++t)++iM (k - t.size):=by
 have h1:(x++iM k).extract 0 x.size=x:=abS rfl;have h2:(x++iM k).extract (x.size+t.size) (x++iM k).size=iM (k - t.size):=by
  have e:iM k=iM t.size++iM (k - t.size):=by
   unfold iM;rw[<- Ly,<- Ni,show t.size+(k - t.size)=k by omega]
  rw[e,<- abl];exact ByteArray.extract_append_eq_right (by rw[aaT,pK]) (by rw[aaT])
 unfold fb;rw[h1,h2]
theorem DK {S:List ByteArray}{sec at_:Nat}{t:ByteArray}(h:∀ s∈S,s.size=32):∀ s∈fl S (wr S sec at_ t),s.size=32:=U2 h λw hw=>(GK h w hw).2
theorem xJ {S:List ByteArray}(h:∀ s∈S,s.size=32)(hl:16<=S.length):ke S 0=(bU S).extract 256 512:=yT h (F:=8) (n:=8) (by omega)
theorem UY {S:List ByteArray}(h:∀ s∈S,s.size=32)(hl:16<=S.length){t:ByteArray}(ht:t.size<=128):ke (fl S (wr S 4 0 t)) 0=ke S 0:=by
 rw[xJ (DK h) (by rw[mv];exact hl),xJ h hl,QU h (by omega),SQ (n:=256) (by omega) (by rw[mK h];omega)]
theorem QP {S:List ByteArray}(h:∀ s∈S,s.size=32)(hl:16<=S.length){e:Nat}{t:ByteArray}(ht:e+t.size<=256):ke (fl S (wr S 8 e t)) 0=fb (ke S 0) e t:=by
 rw[xJ (DK h) (by rw[mv];exact hl),xJ h hl,QU h (by omega),SR (n:=256) (by omega) (by omega) (by rw[mK h];omega)];rw[show 32 * 8+e - 256=e by omega]
theorem GN (a b:Nat):iM a++iM b=iM (a+b):=by
 unfold iM;rw[<- Ly,<- Ni]
theorem II :∀ n:Nat,bU (aa0 n zS)=iM (32 * n)
 | 0=>rfl
 | n+1=>by
  rw[List.replicate_succ,join_cons,II n,show zS=iM 32 from rfl,GN,show 32+32 * n=32 * (n+1) by omega]
theorem U3 {n a b:Nat}(h:b<=n):(iM n).extract a b=iM (b - a):=by
 rcases Nat.le_total a b with hab | hab
 ·have e:iM n=iM a++(iM (b - a)++iM (n - b)):=by rw[GN,GN,show a+(b - a+(n - b))=n by omega]
  rw[e,abZ,pK,show(iM a).extract a b=aaM from by rw[abO,pK];omega,abw,Nat.sub_self];exact abS (pK _).symm
 rw[show b - a=0 by omega,show iM 0=aaM from rfl,abO];omega
theorem SL {n:Nat}(h:16<=n):ke (aa0 n zS) 0=iM 256:=by
 have hs:∀ s∈aa0 n zS,s.size=32:=λs hs=>by rw[List.eq_of_mem_replicate hs];exact Ce
 rw[xJ hs (by rw[abY];exact h),II,U3 (by omega)]
theorem fV {u:ByteArray}(h:dw u=true):u.size<=8:=by
 unfold dw dm at h;simp only[aaR,decide_eq_true_eq] at h;omega
def mI (b:aT):ae:=⟨b.Valid,cF b.Valid b.cv⟩
def bx (L:List aT):List ae:=L.map mI
def aaB (A:ax)(b:aT):aC:=mG A (cn A) (mI b) 1
def oy (A:ax)(b:aT):ByteArray:=gi A (cn A) (fL A) (aaB A b)
def C1 (A:ax):ByteArray:=gi A (cn A) (fL A) uS
def yU (b:aT):Nat:=20+b.cv.size
def eg :List aT->Nat
 | []=>10
 | b::L=>eg L+yU b
theorem DL (L:List aT)(b:aT):eg (L++[b])=eg L+yU b:=by
 induction L with
 | nil=>rfl
 | cons c L ih=>show eg (L++[b])+yU c=eg L+yU c+yU b;rw[ih];omega
def C2 (A:ax)(L:List aT):ByteArray:=C1 A++bU (L.map (oy A))
def gD (L:List aT):Prop:=L.length<=4/\(∀(i:Nat) (b:aT),L[i]? =some b->b=dW ((i:Int)+1) b.cv/\dw b.cv=true)/\L.Pairwise λa b=>a.cv≠b.cv
theorem DQ :dw cG=true:=by rfl
theorem tW {nv:Int}{u:ByteArray}(h1:1<=nv)(h2:nv<=9999)(hu:dw u=true):bH (cF nv u)=true:=by
 simp[bH,cF,dm,hu,DQ,h1,h2,show aaM=aaP #[] from rfl]
theorem tJ {nv:Int}{u:ByteArray}(h1:1<=nv)(h2:nv<=9)(hu:dw u=true):lJ (cF nv u):=by
 have hz:=fV hu;exact⟨tW h1 (by omega) hu,by show nv < 128;omega,by show(0:Int) < 128;omega,by show(1:Int) < 128;omega,by show(0:Int) < 128;omega,by show u.size < 128;omega,by show cG.size < 128;decide,by show aaM.size < 128;decide⟩
theorem sw {A:ax}(hA:A=aj){v:Int->List Int}(hv:qV v){nv:Int}{u:ByteArray}(h1:1<=nv)(h2:nv<=9)(hu:dw u=true):(dB A v (cF nv u)).size=13+u.size:=by
 have h:=tJ h1 h2 hu;unfold dB;rw[if_pos h.1,vU hA hv h];simp only[aaT,bg,abM];show 1+(1+(1+(1+(1+(1+(u.size+(1+(5+(1+0)))))))))=_;omega
theorem mJ {A:ax}(hA:A=aj){v:Int->List Int}(hv:qV v){nv:Int}{u:ByteArray}(h1:1<=nv)(h2:nv<=9)(hu:dw u=true):fN (mG A v ⟨nv,cF nv u⟩ 1)/\hC (mG A v ⟨nv,cF nv u⟩ 1)=20+u.size:=by
 have hz:=fV hu;have hs:(mG A v ⟨nv,cF nv u⟩ 1).Body.size=13+u.size:=sw hA hv h1 h2 hu;refine⟨⟨acp _,by show(1:Int) < 128;decide,h1,by show nv < 128;omega,by omega,by omega⟩,?_⟩;unfold hC;omega
theorem qg :fN uS:=⟨by decide,by decide,by decide,by decide,by decide,by decide⟩
theorem yS {A:ax}(hA:A=aj):(C1 A).size=10:=(oA (iP hA) qg).2
theorem qh {L:List aT}(h:gD L){i:Nat}{b:aT}(hb:L[i]? =some b):b=dW ((i:Int)+1) b.cv/\dw b.cv=true/\1<=(i:Int)+1/\(i:Int)+1<=9:=by
 obtain⟨h1,h2,h3⟩:=h;have hi:i < L.length:=(aaZ.1 hb).1;exact⟨(h2 i b hb).1,(h2 i b hb).2,by omega,by omega⟩
theorem lh {L:List aT}(h:gD L){b:aT}(hb:b∈L):∃ i:Nat,L[i]? =some b/\b=dW ((i:Int)+1) b.cv/\dw b.cv=true/\1<=b.Valid/\b.Valid<=4/\b.Valid=(i:Int)+1:=by
 obtain⟨i,hi⟩:=List.mem_iff_getElem?.1 hb;obtain⟨h1,h2,h3,h4⟩:=qh h hi;have hv:b.Valid=(i:Int)+1:=by rw[h1];rfl
 have hl:i < L.length:=(aaZ.1 hi).1;have:=h.1;exact⟨i,hi,h1,h2,by omega,by omega,hv⟩
theorem GO {b:aT}{k:Int}(h:b=dW k b.cv):mI b=⟨k,cF k b.cv⟩:=by
 have:b.Valid=k:=by rw[h];rfl
 unfold mI;rw[this]
theorem Fi {A:ax}(hA:A=aj){L:List aT}(h:gD L){b:aT}(hb:b∈L){v:Int->List Int}(hv:qV v):fN (mG A v (mI b) 1)/\hC (mG A v (mI b) 1)=yU b:=by
 obtain⟨i,_,h1,h2,h3,h4,h5⟩:=lh h hb;rw[GO h1];exact mJ hA hv (by omega) (by omega) h2
theorem vT {A:ax}(hA:A=aj){L:List aT}(h:gD L){v:Int->List Int}(hv:qV v):∀ x∈bx L,xK A v x:=by
 intro x hx;obtain⟨b,hb,rfl⟩:=abI.1 hx;obtain⟨i,_,h1,h2,h3,h4,h5⟩:=lh h hb;refine⟨?_,(Fi hA h hb hv).1⟩;rw[GO h1];exact tJ (by omega) (by omega) h2
theorem U4 {A:ax}(hA:A=aj){L:List aT}(h:gD L){b:aT}(hb:b∈L):(oy A b).size=yU b:=by
 obtain⟨h1,h2⟩:=Fi hA h hb (iP hA);rw[<- h2];exact(oA (iP hA) h1).2
theorem Nc {A:ax}(hA:A=aj){L:List aT}(h:gD L):(C2 A L).size=eg L:=by
 have key:∀ M:List aT,(∀ b∈M,(oy A b).size=yU b)->(bU (M.map (oy A))).size+10=eg M:=by
  intro M
  induction M with
  | nil=>intro _;rfl
  | cons b M ih=>
   intro hM;rw[abL,join_cons,aaT,hM b (aa2 ..)];have:=ih λc hc=>hM c (aaX _ hc);show _=eg M+yU b;omega
 have:=key L λb hb=>U4 hA h hb;unfold C2;rw[aaT,yS hA];omega
theorem uR {L:List aT}(h:gD L):eg L<=10+28 * L.length:=by
 have key:∀ M:List aT,(∀ b∈M,b.cv.size<=8)->eg M<=10+28 * M.length:=by
  intro M
  induction M with
  | nil=>intro _;exact abr _
  | cons b M ih=>
   intro hM;have h1:=hM b (aa2 ..);have h2:=ih λc hc=>hM c (aaX _ hc);show eg M+(20+b.cv.size)<=_;rw[aa5];omega
 exact key L λb hb=>by obtain⟨_,_,_,h2,_⟩:=lh h hb;exact fV h2
theorem IJ {A:ax}(hA:A=aj){v:Int->List Int}{s:Int->Int}(hv:qV v){k:Nat}(hk:7<=k):∀(fs:List aC) (pre:ByteArray),(∀ f∈fs,fN f/\f.jy=1)->
  fU A v s (pre++(bU (fs.map (gi A v s))++iM k)) fs pre.size (pre.size+(bU (fs.map (gi A v s))).size)
 | [],pre,_=>by
  have hz:bU (aaN (gi A v s) [])=aaM:=rfl;rw[hz,abw];have hb:∀ j,j < k->bc (pre++iM k) ((pre.size+j:Nat):Int)=0:=λj hj=>by
   rw[OX (by rw[pK];exact hj)];unfold bc;rw[abb,getElem?_pos (iM k) j (by rw[pK];exact hj)];simp[iM,strOfNums,ByteArray.getElem_eq_getElem_data]
  refine⟨rfl,by rw[aaT,pK];omega,?_,hb 1 (by omega),hb 2 (by omega)⟩;have:=hb 0 (by omega);rw[ack] at this;exact this
 | f::fs,pre,h=>by
  obtain⟨h1,h2⟩:=h f (aa2 ..);have hf:=(oA (A:=A) (s:=s) hv h1).2;have ih:=IJ hA (s:=s) hv hk fs (pre++gi A v s f) λg hg=>h g (aaX _ hg);rw[abl,aaT,hf] at ih;rw[abL,join_cons,aaT,hf,abl];refine⟨h1,h2,?_,by rw[<- aco];exact ih⟩;have:=GP (pre++(gi A v s f++(bU (fs.map (gi A v s))++iM k)));have:=(kC.1 this).2;rw[abj] at this;exact(kC.1 this).1
theorem Lz {A:ax}(hA:A=aj){L:List aT}(h:gD L){v:Int->List Int}{s:Int->Int}(hv:qV v)(hs:∀ f,fN f->gi A v s f=gi A (cn A) (fL A) f)(hr:∀ r,lJ r->dB A v r=dB A (cn A) r){t:ByteArray}(ht:t=C2 A L++iM (256 - eg L)):
  fU A v s t (uS::eX A v (bx L)) 0 (eg L):=by
 have hf:∀ f∈uS::eX A v (bx L),fN f/\f.jy=1:=by
  intro f hf;rcases aa9.1 hf with rfl | hf
  ·exact⟨qg,rfl⟩
  obtain⟨x,hx,rfl⟩:=abI.1 hf;exact⟨(vT hA h hv x hx).2,rfl⟩
 have he:(uS::eX A v (bx L)).map (gi A v s)=C1 A::L.map (oy A):=by
  rw[abL,hs uS qg];refine congrArg _ ?_;unfold eX bx;rw[List.map_map,List.map_map];refine List.map_congr_left λb hb=>?_;show gi A v s (mG A v (mI b) 1)=gi A (cn A) (fL A) (mG A (cn A) (mI b) 1);have hI:=vT hA h hv (mI b) (abI.2 ⟨b,hb,rfl⟩);rw[hs _ hI.2];unfold mG;rw[hr _ hI.1]
 have hj:bU ((uS::eX A v (bx L)).map (gi A v s))=C2 A L:=by rw[he,join_cons];rfl
 have hl:=h.1;have hle:=uR h;have key:=IJ hA (s:=s) hv (k:=256 - eg L) (by omega) (uS::eX A v (bx L)) aaM hf;rw[hj,Nc hA h,abw] at key;rw[ht];have e:aaM.size=0:=rfl;rw[e,abj] at key;exact key
theorem WH {A:ax}(hA:A=aj){L:List aT}(h:gD L){t:ByteArray}(ht:t=C2 A L++iM (256 - eg L)):fU A (cn A) (fL A) t (uS::eX A (cn A) (bx L)) 0 (eg L):=Lz hA h (iP hA) (λ_ _=>rfl) (λ_ _=>rfl) ht
theorem WI {A:ax}(hA:A=aj){L:List aT}(h:gD L){t:ByteArray}(ht:t=C2 A L++iM (256 - eg L)):fU A (dp A) (iw A) t (uS::eX A (dp A) (bx L)) 0 (eg L):=Lz hA h (nC hA) (λ_ h=>GM hA h) (λ_ h=>DP hA h) ht
theorem QQ :gD []:=⟨by decide,λi b h=>by simp at h,List.Pairwise.nil⟩
theorem C5 :∀(pre xs:List ae),(∀ x∈xs,qO x=true)->(pre++xs).Pairwise (λa b=>a.Seq < b.Seq)->lU pre xs=true
 | _,[],_,_=>rfl
 | pre,x::xs,h,hp=>by
  have h1:=C5 (pre++[x]) xs (λy hy=>h y (aaX _ hy)) (by rw[List.append_assoc];exact hp);unfold lU;rw[h x (aa2 ..),h1,Bool.true_and,Bool.and_true,Bool.not_eq_true'];rw[List.any_eq_false];intro y hy;have:=(List.pairwise_append.1 hp).2.2 y hy x (aa2 ..);unfold jk;rw[aaR,decide_eq_true_eq];omega
theorem C6 {L:List aT}(h:gD L):L.Pairwise λa b=>a.Valid < b.Valid:=by
 rw[List.pairwise_iff_getElem];intro i j hi hj hij;have e1:=(qh h (aa7 hi)).1;have e2:=(qh h (aa7 hj)).1;have v1:L[i].Valid=(i:Int)+1:=by rw[e1];rfl
 have v2:L[j].Valid=(j:Int)+1:=by rw[e2];rfl
 omega
theorem tK {L:List aT}(h:gD L):dY (bx L)=true:=by
 unfold dY;rw[aaR,decide_eq_true_eq];refine⟨by unfold bx;rw[aaS];have:=h.1;omega,C5 [] _ (λx hx=>?_) ?_⟩
 ·obtain⟨b,hb,rfl⟩:=abI.1 hx
  obtain⟨i,_,h1,h2,h3,h4,h5⟩:=lh h hb;rw[GO h1];unfold qO;rw[tW (by omega) (by omega) h2,Bool.and_true];simp only[dm,aaR,decide_eq_true_eq];omega
 rw[List.nil_append];exact List.pairwise_map.2 (C6 h)
theorem Nj {α β:Type}{f:β->Option α}{g:α->β}:∀{l:List α},(∀ x∈l,f (g x)=some x)->(l.map g).filterMap f=l
 | [],_=>rfl
 | x::l,h=>by
  rw[abL,List.filterMap_cons,h x (aa2 ..)];simp only;rw[Nj λy hy=>h y (aaX _ hy)]
theorem Fj {L:List aT}{x:ae}(hx:x∈bx L):∃ b∈L,x=mI b/\x.Rec.Kind=1:=by
 obtain⟨b,hb,rfl⟩:=abI.1 hx;exact⟨b,hb,rfl,rfl⟩
theorem yV {L:List aT}(h:gD L):kB (bx L)=⟨L⟩:=by
 unfold kB;rw[if_pos (tK h)];refine congrArg cY.mk ?_;unfold Ba;have h1:gF gZ aE.Valid (bx L)=L.map aT.Valid:=by
  obtain⟨p1,p2⟩:=lI gZ aE.Valid (bx L);refine xL p1 (List.pairwise_map.2 (C6 h)) λn=>?_;rw[p2,abI];constructor
  ·rintro⟨x,hx,_,rfl⟩
   obtain⟨b,hb,rfl⟩:=abI.1 hx;exact⟨b,hb,rfl⟩
  rintro⟨b,hb,rfl⟩
  exact⟨mI b,abI.2 ⟨b,hb,rfl⟩,rfl,rfl⟩
 rw[h1];refine Nj λb hb=>?_;obtain⟨i,hi,e1,hw,_,_,hv⟩:=lh h hb;have jL:∀ k v:Int,k≠1->(bx L).any (λx=>bD k v x.Rec)=false:=by
  intro k v hk;rw[List.any_eq_false];intro x hx;obtain⟨c,hc,rfl,sT⟩:=Fj hx;intro hq;have:=(jc.1 hq).1;omega
 have sS:kF b.Valid (bx L)=some (mI b):=by
  unfold kF;rw[jG,jL 2 b.Valid (by decide)];rw[if_neg (by decide)];have hs:(gm (bD 1 b.Valid) eP (bx L)).isSome=true:=by
   rw[jG,List.any_eq_true];exact⟨mI b,abI.2 ⟨b,hb,rfl⟩,jc.2 ⟨rfl,rfl⟩⟩
  obtain⟨y,hy⟩:=Option.isSome_iff_exists.1 hs;rw[hy];obtain⟨m1,m2⟩:=Cb hy;obtain⟨c,hc,rfl⟩:=abI.1 m1;have hcv:c.Valid=b.Valid:=(jc.1 m2).2;obtain⟨j,hj,_,_,_,_,hjv⟩:=lh h hc;have:j=i:=by omega
  subst this;have:=hi.symm.trans hj;rw[Option.some.inj this]
 unfold pC;rw[sS];refine congrArg some ?_;have hu:gF (dU b.Valid) aE.dG (bx L)=[]:=by
  obtain⟨p1,p2⟩:=lI (dU b.Valid) aE.dG (bx L);refine xL p1 List.Pairwise.nil λn=>?_;rw[p2];constructor
  ·rintro⟨x,hx,hq,_⟩
   obtain⟨c,hc,rfl,sT⟩:=Fj hx;unfold dU bD at hq;rw[sT] at hq;simp at hq
  intro hq;cases hq
 unfold sL;show(⟨(mI b).Rec.Valid,(mI b).Rec.cv,(mI b).Rec.Name,tI (mI b).Rec.Next (gF (dU (mI b).Rec.Valid) aE.dG (bx L)),(gF (dU (mI b).Rec.Valid) aE.dG (bx L)).filterMap (jT (mI b).Rec.Valid (bx L))⟩:aT)=b;rw[show(mI b).Rec.Valid=b.Valid from rfl,hu]
 conv=>rhs;rw[e1]
 show(⟨b.Valid,b.cv,cG,1,[]⟩:aT)=dW ((i:Int)+1) b.cv;unfold dW;rw[hv]
theorem Bl {L:List aT}{u:ByteArray}(h:gD L)(hl:L.length<=3)(hm:dN L ((L.length:Int)+1) u=true):gD (L++[dW ((L.length:Int)+1) u]):=by
  have hw:dw u=true:=by
    unfold dN xr at hm;simp only[aaR] at hm;exact hm.1.1
  have hh:hasB L u cG=false:=by
    unfold dN kE at hm;simp only[aaR,Bool.not_eq_true'] at hm;exact hm.2.2.1
  refine⟨by rw[aaY];show L.length+1<=4;omega,λi b hb=>?_,?_⟩
  · rcases Nat.lt_or_ge i L.length with hi | hi
    · rw[List.getElem?_append_left hi] at hb
      exact h.2.1 i b hb
    · rw[List.getElem?_append_right hi] at hb
      have VO:i - L.length=0:=by
        rcases acq (i - L.length) with h0 | h0
        · exact h0
        · rw[List.getElem?_eq_none (by show 1<=_;omega)] at hb;cases hb
      rw[VO] at hb;have hb:dW ((L.length:Int)+1) u=b:=Option.some.inj hb;rw[<- hb,show i=L.length by omega];exact⟨rfl,hw⟩
  · refine List.pairwise_append.2 ⟨h.2.2,List.pairwise_singleton ..,λa ha b hb=>?_⟩
    rw[aba.1 hb];intro he;have he:a.cv=u:=he;obtain⟨i,_,e1,_⟩:=lh h ha;have:hasB L u cG=true:=by
      unfold hasB;rw[List.find?_isSome];exact⟨a,ha,by unfold lG;rw[e1];show(decide (a.cv=u) && decide (cG=cG))=true;rw[he];simp⟩
    rw[hh] at this;cases this
end Go.Av
namespace Go.Av
open Go
set_option linter.unusedVariables false
set_option linter.unusedSimpArgs false
def nD (i:Int)(s:bu):Bool:=decide (s.No=i)
def kH (us:List bu):Nat->List Int
 | 0=>[]
 | i+1=>if us.any (nD (i:Int))=true then kH us i else kH us i++[(i:Int)]
theorem Bn (us:List bu):∀ i,(kH us i).length<=i
 | 0=>abr _
 | i+1=>by
  have:=Bn us i;unfold kH;split
  ·omega
  rw[aaY];simp only[aa5,abn];omega
def mc (n:Int)(us:List bu):List Int:=kH us (aaO (min n 11))
theorem Lv {α:Type}{p:α->Bool}{xs:List α}{i:Nat}{x:α}(h:xs[i]? =some x):(xs.take (i+1)).any p=((xs.take i).any p || p x):=by
 rw[aa6,h,List.any_append];simp
def C3 (fr:List Int)(no:Int):Bool:=fr.any λx=>decide (x=no)
def gI (fr:List Int)(us:List bu):List ae:=(us.filter λs=> !(C3 fr s.No)).flatMap bu.ka
theorem DO {fr:List Int}{us:List bu}{i:Nat}{s:bu}(h:us[i]? =some s):gI fr (us.take (i+1))=if C3 fr s.No=true then gI fr (us.take i) else gI fr (us.take i)++s.ka:=by
 rw[aa6,h,gI,List.filter_append,List.flatMap_append]
 by_cases hk:C3 fr s.No=true<;>simp[ace,hk,gI]
theorem Mn (fr:List Int)(us:List bu)(i:Nat):gI fr us=gI fr (us.take i)++gI fr (us.drop i):=by
 unfold gI;rw[<- List.flatMap_append,<- List.filter_append,abH]
theorem SN (fr:List Int)(us:List bu)(i:Nat):(gI fr (us.take i)).length<=(gI fr us).length:=by
 rw[Mn fr us i,aaY];omega
theorem QT {fr:List Int}{us:List bu}{i:Nat}{s:bu}(h:us[i]? =some s)(hf:C3 fr s.No=false):(gI fr (us.take i)).length+s.ka.length<=(gI fr us).length:=by
 have h1:=SN fr us (i+1);rw[DO h,if_neg (by rw[hf];decide),aaY] at h1;exact h1
theorem wW (fr:List Int):∀ us:List bu,(gI fr us).length<=(bm us).length
 | []=>abr _
 | s::us=>by
  have h:=wW fr us;unfold gI bm at *;rw[ace];split<;>simp only[List.flatMap_cons,aaY] at * <;>omega
theorem SO {fr:List Int}{us:List bu}{x:ae}(h:x∈gI fr us):x∈bm us:=by
 obtain⟨s,hs,hx⟩:=abf.1 h;exact abf.2 ⟨s,(List.mem_filter.1 hs).1,hx⟩
theorem UZ {fr:List Int}{us:List bu}(h:∀ q∈il (bm us),q<=1048576):∀ q∈il (gI fr us),q<=1048576:=by
 intro q hq;rcases aa9.1 hq with rfl | hq
 ·have h1:=wW fr us
  have h2:=h _ (aa2 ..);omega
 obtain⟨x,hx,hq⟩:=abf.1 hq;exact h q (aaX _ (abf.2 ⟨x,SO hx,hq⟩))
end Go.Av
namespace Go.Av
open Go
set_option linter.unusedVariables false
set_option linter.unusedSimpArgs false
set_option maxRecDepth 100000
def ckP :ByteArray:=strOfNums [1,2,1,1,1]
def Fg :ByteArray:=strOfNums [1,2,1,1,1,0,1]
def xG (A:ax):ByteArray:=strOfNums [11]++(Fg++oM A (fL A) Fg)
theorem yQ (A:ax):(xG A).size=12:=by
 simp only[xG,aaT,bg,mF,Fg];rfl
def gN (n:Int):List ByteArray:=aa0 (aaO (8+n * 8)) zS
def pb (A:ax)(n:Int):List ByteArray:=fl (gN n) (wr (gN n) 8 0 (C1 A))
def ckS (A:ax)(n:Int):List ByteArray:=fl (pb A n) (wr (pb A n) 4 0 (xG A))
def hdL (A:ax)(n:Int):bF:=⟨⟨pb A n,[]⟩,n,[⟨0,1,10,[]⟩],2,1,0,1⟩
def DJ (A:ax)(n:Int):bF:=⟨⟨ckS A n,[]⟩,n,[⟨0,1,10,[]⟩],2,1,1,1⟩
def fB (L:List aT):bu:=⟨0,1,(eg L:Int),bx L⟩
structure gV (A:ax)(g:bF)(n:Int)(L:List aT):Prop where
 n5:5<=n
 jq:n<=11
 gd:gD L
 l3:L.length<=3
 dk:eM g.ba
 ca:g.ba.Cache=[]
 ln:(g.ba.aD.length:Int)=8+n * 8
 sg:g.ld=n
 us:g.Used=[fB L]
 ng:g.dZ=2
 ns:g.ea=(L.length:Int)+1
 sp:g.fv=1
 nv:g.cT=(L.length:Int)+1
 tx:ke g.ba.aD 0=C2 A L++iM (256 - eg L)
theorem gV.end_ {A:ax}{g:bF}{n:Int}{L:List aT}(h:gV A g n L):eg L<=94:=by
 have:=uR h.gd;have:=h.l3;omega
theorem gV.aaz {A:ax}(hA:A=aj){g:bF}{n:Int}{L:List aT}(h:gV A g n L):JT A (cn A) (fL A) g.ba (fB L):=
 ⟨acp _,by show(0:Int)<=10;decide,by show 16+(0:Int) * 8<=_;have:=h.ln;have:=h.n5;omega,rfl,by show(0:Int)<=(eg L:Int);omega,by show fU A (cn A) (fL A) (ke g.ba.aD 0) (uS::eX A (cn A) (bx L)) 0 (aaO (eg L:Int));rw[abb];exact WH hA h.gd h.tx,vT hA h.gd (iP hA)⟩
theorem gV.aaA {A:ax}(hA:A=aj){g:bF}{n:Int}{L:List aT}(h:gV A g n L):JT A (dp A) (iw A) g.ba (fB L):=
 ⟨acp _,by show(0:Int)<=10;decide,by show 16+(0:Int) * 8<=_;have:=h.ln;have:=h.n5;omega,rfl,by show(0:Int)<=(eg L:Int);omega,by show fU A (dp A) (iw A) (ke g.ba.aD 0) (uS::eX A (dp A) (bx L)) 0 (aaO (eg L:Int));rw[abb];exact WI hA h.gd h.tx,vT hA h.gd (nC hA)⟩
theorem Cc {S:List ByteArray}(h:eM ⟨S,[]⟩){sec at_:Nat}{t:ByteArray}:eM ⟨fl S (wr S sec at_ t),[]⟩:=by
 obtain⟨h1,h2,h3,h4,h5⟩:=h;exact⟨by show 1<=(fl S _).length;rw[mv];exact h1,by show(fl S _).length<=100;rw[mv];exact h2,h3,DK h4,λw hw=>by cases hw⟩
theorem yR {us:List bu}{s v:bu}{i:Nat}(hus:us=[s])(h:us[i]? =some v):v=s/\i=0:=by
 subst hus;cases i with
 | zero=>exact⟨(Option.some.inj h).symm,rfl⟩
 | succ i=>cases h
theorem Cd {α:Type}{us:List α}{s v:α}{i:Nat}(hus:us=[s])(h:us[i]? =some v):v=s/\i=0:=by
 subst hus;cases i with
 | zero=>exact⟨(Option.some.inj h).symm,rfl⟩
 | succ i=>cases h
def wV (s:bu):lV:=⟨s.No,s.jy⟩
def Nb :df:=⟨1,2,1,1,[⟨0,1⟩]⟩
def lf (A:ax)(g:bF)(L:List aT)(u:ByteArray):bF:=
 ⟨⟨fl g.ba.aD (wr g.ba.aD 8 (eg L) (oy A (dW ((L.length:Int)+1) u))),[]⟩,g.ld,[fB (L++[dW ((L.length:Int)+1) u])],2,(L.length:Int)+2,1,(L.length:Int)+2⟩
theorem mH {L:List aT}{nv:Int}{u:ByteArray}(h:dN L nv u=true):dw u=true:=by
 unfold dN xr at h;simp only[aaR] at h;exact h.1.1
theorem OV {A:ax}(hA:A=aj){L:List aT}(hl:L.length<=3){u:ByteArray}(hm:dN L ((L.length:Int)+1) u=true){v:Int->List Int}(hv:qV v):fN (mG A v (mI (dW ((L.length:Int)+1) u)) 1)/\hC (mG A v (mI (dW ((L.length:Int)+1) u)) 1)=20+u.size:=
 mJ (nv:=(L.length:Int)+1) hA hv (by omega) (by omega) (mH hm)
theorem Bk {A:ax}(hA:A=aj){L:List aT}(hl:L.length<=3){u:ByteArray}(hm:dN L ((L.length:Int)+1) u=true):(oy A (dW ((L.length:Int)+1) u)).size=20+u.size:=by
 obtain⟨h1,h2⟩:=OV hA hl hm (iP hA);rw[<- h2];exact(oA (iP hA) h1).2
theorem gV.add {A:ax}(hA:A=aj){g:bF}{n:Int}{L:List aT}(h:gV A g n L)(hl:L.length<=2){u:ByteArray}(hm:dN L ((L.length:Int)+1) u=true):gV A (lf A g L u) n (L++[dW ((L.length:Int)+1) u]):=by
 have hd:eM ⟨g.ba.aD,[]⟩:=by
  have:=h.dk;rw[show g.ba=⟨g.ba.aD,g.ba.Cache⟩ from rfl,h.ca] at this;exact this
 have hz:=Bk hA (by omega) hm;have hu:=fV (mH hm);have he:=h.end_;have WJ:16<=g.ba.aD.length:=by have:=h.ln;have:=h.n5;omega
 have hlen:((L++[dW ((L.length:Int)+1) u]).length:Int)=(L.length:Int)+1:=by rw[aaY];show((L.length+1:Nat):Int)=_;omega
 have hL:=uR h.gd;refine⟨h.n5,h.jq,Bl h.gd (by omega) hm,by rw[aaY];show L.length+1<=3;omega,Cc hd,rfl,?_,h.sg,rfl,rfl,?_,rfl,?_,?_⟩
 ·show((fl g.ba.aD _).length:Int)=_
  rw[mv];exact h.ln
 ·rw [hlen];show(L.length:Int)+2=_;omega
 ·rw [hlen];show(L.length:Int)+2=_;omega
 show ke (fl g.ba.aD (wr g.ba.aD 8 (eg L) (oy A (dW ((L.length:Int)+1) u)))) 0=_;rw[QP hd.2.2.2.1 WJ (by rw[hz];omega),h.tx];have hs:=Nc hA h.gd
 conv=>lhs;arg 2;rw[<- hs]
 rw[IE (by rw[hz];omega),hz,DL];show C2 A L++oy A _++iM (256 - eg L - (20+u.size))=C2 A (L++[_])++iM (256 - (eg L+(20+u.size)));rw[show 256 - eg L - (20+u.size)=256 - (eg L+(20+u.size)) by omega];unfold C2;rw[List.map_append,List.map_singleton,SK,<- abl]
theorem xH {n:Int}(h5:5<=n)(Bm:n<=11):eM ⟨gN n,[]⟩:=by
 have hl:(gN n).length=aaO (8+n * 8):=abY;refine⟨by show 1<=(gN n).length;omega,by show(gN n).length<=100;omega,aaW _,λs hs=>?_,λw hw=>by cases hw⟩;rw[List.eq_of_mem_replicate hs];exact Ce
theorem DM {n:Int}(h5:5<=n):((gN n).length:Int)=8+n * 8:=by
 show((aa0 _ _).length:Int)=_;rw[abY];omega
def OW (n:Int):bF:=⟨⟨gN n,[]⟩,n,[],1,1,0,1⟩
theorem UX {n:Int}(h5:5<=n)(Bm:n<=11):∀ q∈fg (OW n),q<=1048576:=by
 intro q hq;have h1:=su (xH h5 Bm);simp only[fg,aaV] at hq;rcases hq with hq | hq
 ·exact h1 q hq
 simp[OW,gl] at hq;omega
theorem GJ (n:Nat):∀ i,1<=i->(kH [] i)[0]? =some 0/\1<=(kH [] i).length
 | 0,h=>by omega
 | 1,_=>⟨rfl,abr _⟩
 | i+2,_=>by
  obtain⟨h1,h2⟩:=GJ n (i+1) (by omega);have e:kH [] (i+2)=kH [] (i+1)++[((i+1:Nat):Int)]:=rfl;rw[e];refine⟨?_,by rw[aaY];omega⟩;rw[List.getElem?_append_left (by omega)];exact h1
theorem Fh {n:Int}(h5:5<=n):(mc n [])[aaO 0]? =some 0:=(GJ 0 _ (by omega)).1
theorem IF {n:Int}(h5:5<=n):1<=(mc n []).length:=(GJ 0 _ (by omega)).2
theorem Cf {S:List ByteArray}{sec at_:Nat}{t:ByteArray}(hd:eM ⟨S,[]⟩)(hr:sec * 32+at_+t.size<=32 * S.length)(ht:t.size<=60):eM ⟨S,wr S sec at_ t⟩:=by
 obtain⟨h1,h2,h3,h4,h5⟩:=hd;have hl:=Nd S sec at_ t t.size 0;refine⟨h1,h2,by show(wr S sec at_ t).length<=60;unfold wr;omega,h4,λw hw=>?_⟩;obtain⟨⟨a1,a2⟩,a3⟩:=GK h4 w hw;have hS:S.length=S.length:=rfl;refine⟨by omega,?_,a3⟩;rcases acq t.size with h0 | h0
 ·have hw2:w∈xI S sec at_ t t.size 0:=hw
  rw[GL (by omega)] at hw2;cases hw2
 show w.At < (S.length:Int);omega
theorem gV.new {A:ax}(hA:A=aj){n:Int}(h5:5<=n)(Bm:n<=11):gV A (DJ A n) n []:=by
 have hl:(gN n).length=aaO (8+n * 8):=abY;have d0:=xH h5 Bm;have d1:eM ⟨pb A n,[]⟩:=Cc d0;have hz:=yS hA;refine⟨h5,Bm,QQ,by decide,Cc d1,rfl,?_,rfl,rfl,rfl,rfl,rfl,rfl,?_⟩
 ·show((fl (pb A n) _).length:Int)=_
  rw[mv];show((fl (gN n) _).length:Int)=_;rw[mv,hl];omega
 show ke (fl (pb A n) (wr (pb A n) 4 0 (xG A))) 0=_;rw[UY d1.2.2.2.1 (by show 16<=(fl (gN n) _).length;rw[mv,hl];omega) (by rw[yQ];decide)];show ke (fl (gN n) (wr (gN n) 8 0 (C1 A))) 0=_;rw[QP d0.2.2.2.1 (by show 16<=(gN n).length;rw[hl];omega) (by rw[hz];decide)];have e:ke (gN n) 0=aaM++iM 256:=by rw[abw];exact SL (by omega)
 rw[e];have:=IE (x:=aaM) (t:=C1 A) (k:=256) (by rw[hz];decide);rw[show(0:Nat)=aaM.size from rfl,this,hz,abw];show C1 A++iM (256 - 10)=(C1 A++bU [])++iM (256 - 10);rw[show bU []=aaM from rfl,acn]
theorem gV.items {A:ax}{g:bF}{n:Int}{L:List aT}(h:gV A g n L):bm g.Used=bx L:=by
 rw[h.us];show bx L++[]=_;rw[abm]
theorem sv {L:List aT}(h:gD L):∀ q∈il (bx L),q<=1048576:=by
 intro q hq;have hl:(bx L).length=L.length:=aaS ..;have:=h.1;rcases aa9.1 hq with rfl | hq
 ·omega
 obtain⟨x,hx,hq⟩:=abf.1 hq;obtain⟨b,hb,rfl⟩:=abI.1 hx;obtain⟨_,_,_,h2,_⟩:=lh h hb;have hw:=fV h2;have h5:cG.size=5:=rfl;have h0:aaM.size=0:=rfl;simp[pw,eH,mI,cF] at hq;rcases hq with rfl | rfl | rfl<;>omega
theorem gV.zs {A:ax}{g:bF}{n:Int}{L:List aT}(h:gV A g n L):∀ q∈fg g,q<=1048576:=by
 intro q hq;have h1:=su h.dk;have h2:=sv h.gd;simp only[fg,aaV,h.us] at hq;rcases hq with hq | hq
 ·first | exact h1 q hq | (rcases hq with hq | hq<;>first | exact h1 q hq | cases hq)
 simp only[gl,aa9,abf,List.not_mem_nil,or_false,exists_eq_left,abM,abn,aa5,yJ,fB,abm,List.flatMap_cons,List.flatMap_nil] at hq;rcases hq with rfl | hq
 ·omega
 first | exact h2 q hq | (rcases hq with hq | hq<;>first | exact h2 q hq | cases hq)
theorem gV.len {A:ax}{g:bF}{n:Int}{L:List aT}(h:gV A g n L):(bm g.Used).length<=1048576:=by
 rw[h.items];unfold bx;rw[aaS];have:=h.l3;omega
theorem SM {l:List Nat}(h:∀ q∈l,q<=1048576):∀ q∈l,(q:Int)<=4611686018427387904:=λq hq=>by have:=h q hq;omega
theorem DN {L:List aT}(h:gD L):∀ x∈bx L,x.Seq < (L.length:Int)+1/\x.Rec.Valid < (L.length:Int)+1:=by
 intro x hx;obtain⟨b,hb,rfl⟩:=abI.1 hx;obtain⟨i,hi,_,_,_,_,h5⟩:=lh h hb;have:i < L.length:=(aaZ.1 hi).1;exact⟨by show b.Valid < _;omega,by show b.Valid < _;omega⟩
theorem gV.uT {A:ax}{g:bF}{n:Int}{L:List aT}(h:gV A g n L):g.Used.length=1:=by rw[h.us];rfl
theorem Nf {L:List aT}(h:gD L){i k:Nat}{b c:aT}(hb:L[i]? =some b)(hc:L[k]? =some c)(hk:k < i):c.cv≠b.cv:=by
 obtain⟨hi,rfl⟩:=aaZ.1 hb;obtain⟨HN,rfl⟩:=aaZ.1 hc;exact List.pairwise_iff_getElem.1 h.2.2 k i HN hi hk
theorem QR (us:List bu):gI [] us=bm us:=by
 have e:us.filter (λs:bu=> !(C3 [] s.No))=us:=List.filter_eq_self.2 λs _=>rfl;unfold gI bm;rw[e]
theorem rM {L:List aT}(h:gD L):∀ q∈fJ (⟨L⟩:cY),q<=1048576:=by
 intro q hq;simp only[fJ,gW,abm,aa9,abf] at hq;have hl:=h.1;rcases hq with rfl | ⟨b,hb,hq⟩
 ·omega
 obtain⟨i,_,e1,h2,_⟩:=lh h hb;have hw:=fV h2;have h5:cG.size=5:=rfl;rw[e1] at hq;simp[B3,dW,rG] at hq;rcases hq with rfl | rfl | rfl<;>omega
theorem QS {L:List aT}(h:gD L){nv:Int}(hn:nv=(L.length:Int)+1):∀ b∈(⟨L⟩:cY).fF,b.Valid < nv:=by
 intro b hb;obtain⟨i,hi,_,_,_,_,h5⟩:=lh h hb;have:i < L.length:=(aaZ.1 hi).1;omega
structure iQ (A:ax)(x:aK)(n:Int)(L:List aT):Prop where
 lg:gV A x.Log n L
 fr:x.cW=[]
theorem iQ.zs {A:ax}{x:aK}{n:Int}{L:List aT}(h:iQ A x n L):∀ q∈fK x,q<=1048576:=by
 intro q hq;simp only[fK,aaV,h.fr] at hq;rcases hq with hq | hq
 ·exact h.lg.zs q hq
 simp[jS] at hq;omega
theorem Lu (L:List aT):∀ i,(kH [fB L] i).length=i - 1
 | 0=>rfl
 | i+1=>by
  have ih:=Lu L i;unfold kH;have e:[fB L].any (nD (i:Int))=decide ((0:Int)=(i:Int)):=by simp[nD,fB]
  rw[e];cases i with
  | zero=>rfl
  | succ j=>
   rw[if_neg (by simp;omega),aaY,ih];simp
theorem IG {n:Int}(h5:5<=n)(L:List aT):4<=(mc n [fB L]).length:=by
 unfold mc;rw[Lu];omega
def lp (A:ax):bF->List aT->List ByteArray->Option bF
 | g,L,[]=>some g
 | g,L,u::us=>if hasB L u cG=true then lp A g L us else if dN L ((L.length:Int)+1) u=true then lp A (lf A g L u) (L++[dW ((L.length:Int)+1) u]) us else none
def ox (A:ax)(n:Int)(us:List ByteArray):Option bF:=if dm n 5 11=true/\us.length<=3 then lp A (DJ A n) [] us else none
theorem Ng {A:ax}{us:List ByteArray}{i:Nat}{g:bF}{L:List aT}(h:us.length<=i):lp A g L (us.drop i)=some g:=by
 rw[abk h];rfl
end Go.Av
namespace Go.Av
open Go Go.Proofs
set_option linter.unusedVariables false
set_option linter.unusedSimpArgs false
theorem O3 (A:ax)(hA:A=aj):al 108 [.str (aaP #[0]),.ii 32] (.str zS):=by
 refine⟨⟨_,_,Tryz.func108,rfl,by kernel_rfl⟩,λw qJ I vs val hR hI=>?_⟩;cases hR with
 | cons c l v vs hv t=>
  cases t with
  | cons c l u us hu t=>
   cases t with
   | nil=>
    have hv:=nw hv;have hu:=eO hu;subst hv hu;refine Calls.mono (Tryz.strings_Repeat (aaP #[0]) 32 w (by decide) (by decide)) λe w' he=>?_;obtain⟨rfl,hB⟩:=he;exact⟨bf,bf,.one _ _ _ (.one _ _ _ (.str _ _)),λ_ h=>h.elim,λ_ h=>h.elim,hB⟩
end Go.Av

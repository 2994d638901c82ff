/- Frames: their texts and how long they are. -/
import Derived.Test.YtjbokkoiicoahaaGreatDoorJ1
import Derived.Test.YtjbokkoiicoahaaGreatDoorAvg
namespace Go.Av
open Go
set_option linter.unusedVariables false
set_option linter.unusedSimpArgs false
theorem bytes_map :∀ xs:List Int,bytesB (List.map eU8 xs)=true∧nums (List.map eU8 xs)=xs
 | []=>⟨rfl,rfl⟩
 | x::xs=>by
  obtain⟨h1,h2⟩:=bytes_map xs
  exact⟨h1,congrArg (x::·) h2⟩
theorem strN_size (xs:List Int):ByteArray.size (strOfNums xs)=xs.length:=by
 simp[strOfNums,ByteArray.size]
theorem cnv_arr {σ:St}{o:Oper}{t t' e:TypeId}{x:Operand}{s1 b1 s2 b2:Nat}{z1 z2:List PV}{rows:List (List PV)}{xs:List Int}{u:ByteArray}(ho:o.op=.convert t t' x)(h1:T t=some ⟨.slice e,s1,b1,z1⟩)(h2:T t'=some ⟨.str,s2,b2,z2⟩)
  (h3:isU8 T e=true) (h4:rowsOf σ.bl (σ.get x)=some rows) (h5:rows=List.map eU8 xs) (hu:u=strOfNums xs):step T σ o=some (σ.put o.dst (.str u)):=by
 subst h5;subst hu
 have hb:=bytes_map xs
 simp only[step,ho,stConv,h1,h2,h3,h4,hb.1,hb.2,cond_true]
def stI (A:Alg)(s:Int):Int:=if A.cmp .eql (A.num .and .u32 s 1) 1=true then A.num .xor .u32 (Int.fdiv s (2 ^ Int.toNat 1)) 3558460437 else Int.fdiv s (2 ^ Int.toNat 1)
def stR (A:Alg)(s:Int):Int:=if A.cmp .eql (A.num .rem .u32 s 2) 1=true then A.num .xor .u32 (A.num .quo .u32 s 2) 3558460437 else A.num .quo .u32 s 2
def itN (f:Int→Int):Nat→Int→Int
 | 0,s=>s
 | n+1,s=>itN f n (f s)
theorem itN_at {f:Int→Int}{m i:Nat}{s:Int}(h:i < m):itN f (m - i) s=itN f (m - (i+1)) (f s):=by
 rw[show m - i=(m - (i+1))+1 by omega];rfl
def sumG (A:Alg)(f:Int→Int)(t:ByteArray):Nat→Nat→Int→Int
 | _,0,s=>s
 | i,n+1,s=>sumG A f t (i+1) n (itN f 8 (A.num .xor .u32 s (A.cnv .u32 (byteAt t (i:Int)))))
theorem sumG_at {A:Alg}{f:Int→Int}{t:ByteArray}{m i:Nat}{s:Int}(h:i < m):sumG A f t i (m - i) s=sumG A f t (i+1) (m - (i+1)) (itN f 8 (A.num .xor .u32 s (A.cnv .u32 (byteAt t (i:Int))))):=by
 rw[show m - i=(m - (i+1))+1 by omega];rfl
theorem sumG_end {A:Alg}{f:Int→Int}{t:ByteArray}{m i:Nat}{s:Int}(h:m≤i):sumG A f t i (m - i) s=s:=by
 rw[show m - i=0 by omega];rfl
def sumA (A:Alg)(f:Int→Int)(s:Int)(t:ByteArray):Int:=sumG A f t 0 t.size s
def fourA (A:Alg)(n:Int):ByteArray:=strOfNums [A.cnv .u8 (Int.fdiv n (2 ^ Int.toNat 24)),A.cnv .u8 (Int.fdiv n (2 ^ Int.toNat 16)),A.cnv .u8 (Int.fdiv n (2 ^ Int.toNat 8)),A.cnv .u8 n]
def sealA (A:Alg)(f:Int→Int)(t:ByteArray):ByteArray:=fourA A (sumA A f 4294967295 t)
theorem four_size (A:Alg)(n:Int):(fourA A n).size=4:=strN_size _
theorem seal_size (A:Alg)(f:Int→Int)(t:ByteArray):(sealA A f t).size=4:=four_size _ _
def sealedA (A:Alg)(f:Int→Int)(t:ByteArray):ByteArray:=if 20000 < (t.size:Int) then ByteArray.mk #[] else t++sealA A f t
def sealedB (t:ByteArray):Bool:= !(decide (20000 < (t.size:Int)))
def vtG (b e:Int→Int)(n:Int):List Int:=if h:127 < n then b n::vtG b e (n / 128) else [e n]
 termination_by n.toNat
 decreasing_by omega
def vln (n:Int):Nat:=if h:127 < n then 1+vln (n / 128) else 1
 termination_by n.toNat
 decreasing_by omega
theorem vt_len (b e:Int→Int)(n:Int):(vtG b e n).length=vln n:=by
 rw[vtG,vln]
 split
 ·rename_i h
  rw[List.length_cons,vt_len b e (n / 128)];omega
 ·rfl
 termination_by n.toNat
 decreasing_by omega
theorem vt_more {b e:Int→Int}{n:Int}(h:127 < n):vtG b e n=b n::vtG b e (n / 128):=by rw[vtG,dif_pos h]
theorem vt_last {b e:Int→Int}{n:Int}(h:¬ 127 < n):vtG b e n=[e n]:=by rw[vtG,dif_neg h]
theorem vln_le (n:Int)(h:n≤34359738367):vln n≤5:=by
 have s1:∀(k:Nat) (m:Int),(∀ q:Int,q≤m→vln q≤k)→1≤k→∀ n:Int,n≤m * 128+127→vln n≤k+1:=by
  intro k m hm hk n hn
  rw[vln];split
  ·have:=hm (n / 128) (by omega);omega
  omega
 have a1:∀ q:Int,q≤127→vln q≤1:=fun q h=>by rw[vln,dif_neg (by omega)];omega
 have a2:=s1 1 127 a1 (by omega)
 have a3:=s1 2 16383 (fun q h=>a2 q (by omega)) (by omega)
 have a4:=s1 3 2097151 (fun q h=>a3 q (by omega)) (by omega)
 have a5:=s1 4 268435455 (fun q h=>a4 q (by omega)) (by omega)
 exact a5 n (by omega)
def vtI (A:Alg)(n:Int):List Int:=vtG (fun q=>A.cnv .u8 (A.num .or .i64 (A.num .and .i64 q 127) 128)) (fun q=>A.cnv .u8 q) n
def vtR (A:Alg)(n:Int):List Int:=vtG (fun q=>A.cnv .u8 (A.num .add .i64 (A.num .rem .i64 q 128) 128)) (fun q=>A.cnv .u8 q) n
theorem vtI_len (A:Alg)(n:Int):(vtI A n).length=vln n:=vt_len _ _ _
theorem vtR_len (A:Alg)(n:Int):(vtR A n).length=vln n:=vt_len _ _ _
theorem fdiv_7 {q:Int}(h:0≤q):Int.fdiv q (2 ^ Int.toNat 7)=q / 128:=by
 rw[Int.fdiv_eq_ediv_of_nonneg _ (by decide)];rfl
theorem rec_rng {r:GRec}(h:recOk r=true):(0≤r.Valid∧r.Valid≤10000)∧(0≤r.Uid∧r.Uid≤10000)∧(0≤r.Next∧r.Next≤10000)∧(0≤r.Flags∧r.Flags≤10000):=by
 simp only[recOk,inR,Bool.and_eq_true,Bool.or_eq_true,decide_eq_true_eq] at h
 omega
theorem ofB1_size {A:Alg}(hA:A=std)(v:Int):ByteArray.size (A.ofB [[.int .u8 v]])=1:=by rw[hA];rfl
def frameOk (f:GFrame):Bool:=(inR f.Gen 1 1000000000 && inR f.Seq 1 1000000000) && inR (f.Body.size:Int) 1 180
def numsA (v:Int→List Int)(s:ByteArray)(ns:List Int):ByteArray:=ns.foldl (fun s n=>s++strOfNums (v n)) s
def strsA (v:Int→List Int)(s:ByteArray)(xs:List ByteArray):ByteArray:=xs.foldl (fun s x=>s++(strOfNums (v (x.size:Int))++x)) s
def recA (A:Alg)(v:Int→List Int)(r:GRec):ByteArray:=strsA v (numsA v (A.ofB [[.int .u8 (A.cnv .u8 r.Kind)]]) [r.Valid,r.Uid,r.Next,r.Flags]) [r.User,r.Name,r.Text]
def recT (A:Alg)(v:Int→List Int)(r:GRec):ByteArray:=if recOk r=true then recA A v r else ByteArray.mk #[]
def frA (A:Alg)(v:Int→List Int)(x:GItem)(g:Int):GFrame:=⟨g,x.Seq,recT A v x.Rec⟩
def frOk (A:Alg)(v:Int→List Int)(x:GItem)(g:Int):Bool:=recOk x.Rec && frameOk (frA A v x g)
def frI (A:Alg)(v:Int→List Int)(x:GItem)(g:Int):GFrame:=if frOk A v x g=true then frA A v x g else ⟨0,0,ByteArray.empty⟩
def bodyA (v:Int→List Int)(f:GFrame):ByteArray:=((strOfNums (v f.Gen)++strOfNums (v f.Seq))++strOfNums (v (f.Body.size:Int)))++f.Body
def ftA (A:Alg)(v:Int→List Int)(s:Int→Int)(f:GFrame):ByteArray:=if frameOk f=true then sealedA A s (bodyA v f) else ByteArray.mk #[]
def ftB (v:Int→List Int)(f:GFrame):Bool:=frameOk f && sealedB (bodyA v f)
def fsz (f:GFrame):Int:=if frameOk f=true then ((vln f.Gen+vln f.Seq+vln (f.Body.size:Int)+f.Body.size+4:Nat):Int) else 0
theorem body_size {v:Int→List Int}(hv:∀ n,(v n).length=vln n)(f:GFrame):(bodyA v f).size=vln f.Gen+vln f.Seq+vln (f.Body.size:Int)+f.Body.size:=by
 simp only[bodyA,ByteArray.size_append,strN_size,hv]
theorem frame_rng {f:GFrame}(h:frameOk f=true):1≤f.Gen∧f.Gen≤1000000000∧1≤f.Seq∧f.Seq≤1000000000∧f.Body.size≤180:=by
 simp only[frameOk,inR,Bool.and_eq_true,decide_eq_true_eq] at h
 omega
theorem body_le {v:Int→List Int}(hv:∀ n,(v n).length=vln n){f:GFrame}(h:frameOk f=true):(bodyA v f).size≤195:=by
 have hr:=frame_rng h
 have h1:=vln_le f.Gen (by omega)
 have h2:=vln_le f.Seq (by omega)
 have h3:=vln_le (f.Body.size:Int) (by omega)
 rw[body_size hv];omega
theorem ft_size {A:Alg}{v:Int→List Int}{s:Int→Int}(hv:∀ n,(v n).length=vln n)(f:GFrame):((ftA A v s f).size:Int)=fsz f:=by
 unfold ftA fsz
 split
 ·rename_i h
  have hb:=body_le hv h
  unfold sealedA
  rw[if_neg (by omega),ByteArray.size_append,seal_size,body_size hv]
 rfl
theorem ft_le (f:GFrame):0≤fsz f∧fsz f≤199:=by
 unfold fsz
 split
 ·rename_i h
  have hr:=frame_rng h
  have h1:=vln_le f.Gen (by omega)
  have h2:=vln_le f.Seq (by omega)
  have h3:=vln_le (f.Body.size:Int) (by omega)
  omega
 omega
theorem numsA_size {v:Int→List Int}(hv:∀ n,(v n).length=vln n):∀(ns:List Int) (s:ByteArray),(numsA v s ns).size=s.size+(ns.map vln).sum
 | [],s=>by simp[numsA]
 | n::ns,s=>by
  have h:=numsA_size hv ns (s++strOfNums (v n))
  show(numsA v (s++strOfNums (v n)) ns).size=_
  rw[h,ByteArray.size_append,strN_size,hv]
  simp only[List.map_cons,List.sum_cons];omega
theorem strsA_size {v:Int→List Int}(hv:∀ n,(v n).length=vln n):∀(xs:List ByteArray) (s:ByteArray),(strsA v s xs).size=s.size+(xs.map fun x=>vln (x.size:Int)+x.size).sum
 | [],s=>by simp[strsA]
 | x::xs,s=>by
  have h:=strsA_size hv xs (s++(strOfNums (v (x.size:Int))++x))
  show(strsA v (s++(strOfNums (v (x.size:Int))++x)) xs).size=_
  rw[h,ByteArray.size_append,ByteArray.size_append,strN_size,hv]
  simp only[List.map_cons,List.sum_cons];omega
def isz (x:GItem)(g:Int):Int:=fsz (frI std (vtI std) x g)
theorem fr_same {A:Alg}{v v2:Int→List Int}(hv:∀ n,(v n).length=vln n)(hv2:∀ n,(v2 n).length=vln n)(x:GItem)(g:Int):fsz (frI A v x g)=fsz (frI A v2 x g):=by
 have hs:(recT A v x.Rec).size=(recT A v2 x.Rec).size:=by
  unfold recT
  split
  ·unfold recA
   rw[strsA_size hv,strsA_size hv2,numsA_size hv,numsA_size hv2]
  rfl
 have hf:frameOk (frA A v x g)=frameOk (frA A v2 x g):=by
  unfold frameOk frA
  show(_ && inR ((recT A v x.Rec).size:Int) 1 180)=(_ && inR ((recT A v2 x.Rec).size:Int) 1 180)
  rw[hs]
 unfold frI frOk
 rw[hf]
 split
 ·unfold fsz
  rw[hf]
  show(if _ then (((vln g+vln x.Seq+vln ((recT A v x.Rec).size:Int)+(recT A v x.Rec).size+4:Nat):Int)) else 0)=(if _ then (((vln g+vln x.Seq+vln ((recT A v2 x.Rec).size:Int)+(recT A v2 x.Rec).size+4:Nat):Int)) else 0)
  rw[hs]
 rfl
theorem recT_size {A:Alg}{v:Int→List Int}(hv:∀ n,(v n).length=vln n){r:GRec}(hz:∀ q∈zsRec r,q≤1048576)(hA:(A.ofB [[.int .u8 (A.cnv .u8 r.Kind)]]).size=1):(recT A v r).size≤10485760:=by
 unfold recT
 split
 ·rename_i h
  have z1:r.User.size≤1048576:=hz _ (by simp[zsRec])
  have z2:r.Name.size≤1048576:=hz _ (by simp[zsRec])
  have z3:r.Text.size≤1048576:=hz _ (by simp[zsRec])
  have hg:=rec_rng h
  have h1:=vln_le r.Valid (by omega)
  have h2:=vln_le r.Uid (by omega)
  have h3:=vln_le r.Next (by omega)
  have h4:=vln_le r.Flags (by omega)
  have h5:=vln_le (r.User.size:Int) (by omega)
  have h6:=vln_le (r.Name.size:Int) (by omega)
  have h7:=vln_le (r.Text.size:Int) (by omega)
  unfold recA
  rw[strsA_size hv,numsA_size hv,hA]
  simp only[List.map_cons,List.map_nil,List.sum_cons,List.sum_nil]
  omega
 show(ByteArray.mk #[]).size≤_;decide
theorem nums_at {v:Int→List Int}{s:ByteArray}{ns:List Int}{i:Nat}{n:Int}(h:ns[i]? =some n):numsA v s (ns.take (i+1))=numsA v s (ns.take i)++strOfNums (v n):=by
 rw[List.take_add_one,h];simp[numsA,List.foldl_append]
theorem strs_at {v:Int→List Int}{s:ByteArray}{xs:List ByteArray}{i:Nat}{x:ByteArray}(h:xs[i]? =some x):strsA v s (xs.take (i+1))=strsA v s (xs.take i)++(strOfNums (v (x.size:Int))++x):=by
 rw[List.take_add_one,h];simp[strsA,List.foldl_append]
end Go.Av

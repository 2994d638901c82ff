/- The abstract values and the abstract walk: pure values for what a call reads and makes; each operation as a predicate over an abstract state. -/
import Derived.WalkKit
import Derived.Laws.BytesArg
namespace Go.Av
open Go
def nq (a b:Nat):Bool:=a == b
theorem nq_eq {a b:Nat}(h:nq a b=true):a=b:=beq_iff_eq.1 h
@[simp] theorem nq_self (a:Nat):nq a a=true:=beq_iff_eq.2 rfl
def nle (a b:Nat):Bool:=decide (a≤b)
theorem nle_le {a b:Nat}(h:nle a b=true):a≤b:=of_decide_eq_true h
def nlt (a b:Nat):Bool:=decide (a < b)
theorem nlt_lt {a b:Nat}(h:nlt a b=true):a < b:=of_decide_eq_true h
inductive PV where
 | int (k:IntKind) (n:Int)
 | bool (b:Bool)
 | str (s:ByteArray)
 | zc
 | sl (sz:Nat) (rows:List (List PV))
 | ow (sz:Nat) (rows:List (List PV))
 | own (d:Nat)
 | pt (d i j:Nat)
 | rd (cs:List PV)
 | agg (cs:List PV)
 | tup (vs:List PV)
 | fn (f:FuncId) (caps:List PV)
 | raw (v:Value)
 | bad
 deriving Inhabited
abbrev PV.ii (n:Int):PV:=.int .i64 n
inductive BK where
 | var | arr | lit
structure Blk where
 k:BK
 sz:Nat
 rows:List (List PV)
structure St where
 sl:List PV
 bl:List (Nat × Blk)
 hd:List (Nat × Value):=[]
def lookV :List (Nat × Value)→Nat→Option Value
 | [],_=>none
 | (e,v)::l,d=>bif nq e d then some v else lookV l d
def delV :List (Nat × Value)→Nat→List (Nat × Value)
 | [],_=>[]
 | (e,v)::l,d=>bif nq e d then delV l d else (e,v)::delV l d
inductive TK where
 | int (k:IntKind)
 | bool
 | str
 | slice (e:TypeId)
 | struct (fs:List (Nat × Nat)) (flat:Bool) (one:List Bool)
 | other
structure TI where
 kind:TK
 size:Nat
 bytes:Nat
 zero:List PV
def TI.isAgg (i:TI):Bool:=match i.kind with | .struct _ _ _=>true | _=>false
abbrev Tys :=TypeId→Option TI
def setL {α:Type}:List α→Nat→α→List α
 | [],_,_=>[]
 | _::l,0,x=>x::l
 | y::l,n+1,x=>y::setL l n x
def getL :List PV→Nat→PV
 | [],_=>.bad
 | x::_,0=>x
 | _::l,n+1=>getL l n
def blk :List (Nat × Blk)→Nat→Option Blk
 | [],_=>none
 | (e,b)::l,d=>bif nq e d then some b else blk l d
def setB :List (Nat × Blk)→Nat→Blk→List (Nat × Blk)
 | [],d,b=>[(d,b)]
 | (e,c)::l,d,b=>bif nq e d then (e,b)::l else (e,c)::setB l d b
def delB :List (Nat × Blk)→Nat→List (Nat × Blk)
 | [],_=>[]
 | (e,c)::l,d=>bif nq e d then delB l d else (e,c)::delB l d
def ofVal :Value→PV
 | .int k n=>.int k n
 | .bool b=>.bool b
 | .string s=>.str s
 | .slice none 0 0=>.zc
 | _=>.bad
def St.get (σ:St):Operand→PV
 | .tmp t=>getL σ.sl t
 | .const v=>ofVal v
 | .func f=>.fn f []
 | .global _=>.bad
def St.put (σ:St)(d:Option Tmp)(v:PV):St:=
 match d with
 | none=>σ
 | some d=>{σ with sl:=setL σ.sl d v}
mutual
def erase :PV→PV
 | .ow sz rows=>.sl sz (eraseR rows)
 | .raw _=>.bad
 | v=>v
def eraseL :List PV→List PV
 | []=>[]
 | c::l=>erase c::eraseL l
def eraseR :List (List PV)→List (List PV)
 | []=>[]
 | r::l=>eraseL r::eraseR l
end
def leafB :PV→Bool
 | .int _ _ | .bool _ | .str _ | .zc | .sl _ _=>true
 | _=>false
def viewC (bl:List (Nat × Blk)):PV→PV
 | .own d=>match blk bl d with | some ⟨.arr,sz,rows⟩=>.sl sz (eraseR rows) | _=>.bad
 | .ow sz rows=>.sl sz (eraseR rows)
 | v=>bif leafB v then v else .bad
def viewL (bl:List (Nat × Blk)):List PV→List PV
 | []=>[]
 | c::l=>viewC bl c::viewL bl l
mutual
def view (bl:List (Nat × Blk)):PV→PV
  | .own d=>match blk bl d with
    | some ⟨.arr,sz,rows⟩=>.sl sz (eraseR rows)
    | some ⟨.lit,sz,[r]⟩=>.sl sz [viewL bl r]
    | _=>.bad
  | .pt d i j=>match blk bl d with
    | some ⟨_,_,rows⟩=>match rows[i]? with | some r=>.rd (viewL bl (r.drop j)) | none=>.bad
    | none=>.bad
  | .agg cs=>.agg (viewS bl cs)
  | .tup vs=>.tup (viewS bl vs)
  | .fn f caps=>.fn f (viewS bl caps)
  | v=>v
def viewS (bl:List (Nat × Blk)):List PV→List PV
 | []=>[]
 | c::l=>view bl c::viewS bl l
end
mutual
def kill (d:Nat):PV→PV
 | .own e=>bif nq e d then .bad else .own e
 | .pt e i j=>bif nq e d then .bad else .pt e i j
 | .agg cs=>.agg (killS d cs)
 | .tup vs=>.tup (killS d vs)
 | .fn f caps=>.fn f (killS d caps)
 | v=>v
def killS (d:Nat):List PV→List PV
 | []=>[]
 | c::l=>kill d c::killS d l
end
def killB (d:Nat):List (Nat × Blk)→List (Nat × Blk)
 | []=>[]
 | (e,⟨.arr,sz,rows⟩)::l=>(e,⟨.arr,sz,rows⟩)::killB d l
 | (e,⟨k,sz,[r]⟩)::l=>(e,⟨k,sz,[killS d r]⟩)::killB d l
 | (e,⟨k,sz,_⟩)::l=>(e,⟨k,sz,[]⟩)::killB d l
def St.drop (σ:St)(d:Nat):St:={sl:=killS d σ.sl,bl:=killB d (delB σ.bl d),hd:=delV σ.hd d}
def absorb1 (σ:St):PV→Option (PV × St)
  | .own d=>match blk σ.bl d with
    | some ⟨.arr,sz,rows⟩=>some (.ow sz rows,σ.drop d)
    | _=>none
  | .ow sz rows=>some (.ow sz rows,σ)
  | v=>bif leafB v then some (v,σ) else none
def absorbL (σ:St):List PV→Option (List PV × St)
  | []=>some ([],σ)
  | c::l=>match absorb1 σ c with
    | some (c',σ')=>match absorbL σ' l with
      | some (l',σ'')=>some (c'::l',σ'')
      | none=>none
    | none=>none
def slotB :PV→Bool
 | .int _ _ | .bool _ | .str _ | .zc | .sl _ _ | .own _=>true
 | _=>false
def allB (p:PV→Bool):List PV→Bool
 | []=>true
 | c::l=>p c && allB p l
def takeX :Nat→List PV→Option (List PV)
 | 0,_=>some []
 | _+1,[]=>none
 | n+1,c::l=>match takeX n l with | some r=>some (c::r) | none=>none
def loadOf (i:TI)(cs:List PV):Option PV:=
  match i.isAgg with
  | true=>match takeX i.size cs with
    | some r=>bif allB slotB r then some (.agg r) else none
    | none=>none
  | false=>match cs with
    | c::_=>bif slotB c then some c else none
    | []=>none
def cellsOf :PV→List PV
 | .agg cs=>cs
 | v=>[v]
def overL :List PV→Nat→List PV→List PV
 | l,_,[]=>l
 | l,j,c::cs=>overL (setL l j c) (j+1) cs
def bitOp (op:BinOp)(k:IntKind)(a b:Int):Option Int:=
 match op with
 | .and=>some (k.wrap (BitVec.ofInt k.bits a &&& BitVec.ofInt k.bits b).toNat)
 | .or=>some (k.wrap (BitVec.ofInt k.bits a ||| BitVec.ofInt k.bits b).toNat)
 | .xor=>some (k.wrap (BitVec.ofInt k.bits a ^^^ BitVec.ofInt k.bits b).toNat)
 | .andNot=>some (k.wrap (BitVec.ofInt k.bits a &&& ~~~BitVec.ofInt k.bits b).toNat)
 | _=>none
def intop (op:BinOp)(k:IntKind)(a b:Int):Option PV:=
  match op with
  | .add=>some (.int k (k.wrap (a+b)))
  | .sub=>some (.int k (k.wrap (a - b)))
  | .mul=>some (.int k (k.wrap (a * b)))
  | .quo=>bif decide (b=0) then none else some (.int k (k.wrap (a.tdiv b)))
  | .rem=>bif decide (b=0) then none else some (.int k (a.tmod b))
  | .eql=>some (.bool (a == b))
  | .neq=>some (.bool (a != b))
  | .lss=>some (.bool (decide (a < b)))
  | .leq=>some (.bool (decide (a≤b)))
  | .gtr=>some (.bool (decide (a > b)))
  | .geq=>some (.bool (decide (a ≥ b)))
  | .shl | .shr=>none
  | op=>match bitOp op k a b with
    | some n=>some (.int k n)
    | none=>none
def strop (op:BinOp)(a b:ByteArray):Option PV:=
 match op with
 | .add=>bif decide (a.size+b.size≤140737488355328) then some (.str (a++b)) else none
 | .eql=>some (.bool (a.toList == b.toList))
 | .neq=>some (.bool !(a.toList == b.toList))
 | .lss=>some (.bool (Op.bytesLess a.toList b.toList))
 | _=>none
def kindB (k k':IntKind):Bool:=decide (k=k')
def binop (op:BinOp)(x y:PV):Option PV:=
 match x,y with
 | .int k a,.int k' b=>bif kindB k k' then intop op k a b else none
 | .str a,.str b=>strop op a b
 | _,_=>none
def sameK1 :PV→PV→Bool
 | .int k _,.int k' _=>kindB k k'
 | .bool _,.bool _=>true
 | .str _,.str _=>true
 | _,_=>false
def sameK :List PV→List PV→Bool
 | [],[]=>true
 | c::l,d::m=>sameK1 c d && sameK l m
 | _,_=>false
def pvEq :PV→PV→Bool
 | .int _ a,.int _ b=>a == b
 | .bool a,.bool b=>a == b
 | .str a,.str b=>a.toList == b.toList
 | _,_=>false
def pvEqL :List PV→List PV→Bool
 | [],[]=>true
 | c::l,d::m=>pvEq c d && pvEqL l m
 | _,_=>false
def binopT (T:Tys)(op:BinOp)(t:TypeId)(x y:PV):Option PV:=
  match x,y with
  | .bool a,.bool b=>match T t with
    | some ⟨.bool,_,_,_⟩=>match op with
      | .eql=>some (.bool (a == b))
      | .neq=>some (.bool !(a == b))
      | _=>none
    | _=>none
  | .agg l,.agg l'=>match T t with
    | some ⟨.struct _ true _,_,_,z⟩=>match sameK z l && sameK z l' with
      | true=>match op with
        | .eql=>some (.bool (pvEqL l l'))
        | .neq=>some (.bool !(pvEqL l l'))
        | _=>none
      | false=>none
    | _=>none
  | x,y=>binop op x y
def stBox (T:Tys)(σ:St)(dst:Option Tmp)(t:TypeId)(x:PV):Option St:=
  match dst,T t with
  | some d,some i=>match blk σ.bl d with
    | none=>match nq (cellsOf x).length i.size && allB slotB (cellsOf x) with
      | true=>some {σ with sl:=setL σ.sl d (.pt d 0 0),bl:=(d,⟨.var,i.size,[cellsOf x]⟩)::σ.bl}
      | false=>none
    | some _=>none
  | _,_=>none
def stAlloc (T:Tys)(σ:St)(dst:Option Tmp)(t:TypeId):Option St:=
  match dst,T t with
  | some d,some i=>match blk σ.bl d with
    | none=>some {σ with sl:=setL σ.sl d (.pt d 0 0),bl:=(d,⟨.var,i.size,[i.zero]⟩)::σ.bl}
    | some _=>none
  | _,_=>none
def stLoad (T:Tys)(σ:St)(dst:Option Tmp)(t:TypeId)(x:PV):Option St:=
  match T t with
  | some i=>match x with
    | .pt d a j=>match blk σ.bl d with
      | some b=>match b.rows[a]? with
        | some r=>match loadOf i (r.drop j) with
          | some v=>some (σ.put dst v)
          | none=>none
        | none=>none
      | none=>none
    | .rd cs=>match loadOf i cs with
      | some v=>some (σ.put dst v)
      | none=>none
    | _=>none
  | none=>none
def stFieldAddr (T:Tys)(σ:St)(dst:Option Tmp)(s:TypeId)(x:PV)(f:Nat):Option St:=
  match T s with
  | some ⟨.struct fs _ _,_,_,_⟩=>match fs[f]? with
    | some (off,sz)=>bif nq sz 0 then none else match x with
      | .pt d a j=>some (σ.put dst (.pt d a (j+off)))
      | .rd cs=>some (σ.put dst (.rd (cs.drop off)))
      | _=>none
    | none=>none
  | _=>none
def stIndexAddr (T:Tys)(σ:St)(dst:Option Tmp)(t:TypeId)(x ix:PV):Option St:=
  match T t with
  | some ⟨.slice e,_,_,_⟩=>match T e,ix with
    | some ie,.int _ n=>match x with
      | .own d=>match blk σ.bl d with
        | some b=>match decide (0≤n) && decide (n < b.rows.length) && nq b.sz ie.size with
          | true=>some (σ.put dst (.pt d n.toNat 0))
          | false=>none
        | none=>none
      | .sl sz rows=>match decide (0≤n) && nq sz ie.size with
        | true=>match rows[n.toNat]? with
          | some r=>some (σ.put dst (.rd r))
          | none=>none
        | false=>none
      | _=>none
    | _,_=>none
  | _=>none
def stStore (T:Tys)(σ:St)(t:TypeId)(x v:PV):Option St:=
  match T t with
  | some i=>match x with
    | .pt d a j=>match nq (cellsOf v).length i.size with
      | true=>match blk σ.bl d with
        | some ⟨.var,sz,[r]⟩=>match allB slotB (cellsOf v) && nq a 0 && nle (j+i.size) r.length with
          | true=>some {σ with bl:=setB σ.bl d ⟨.var,sz,[overL r j (cellsOf v)]⟩}
          | false=>none
        | some ⟨.arr,_,_⟩=>match absorbL σ (cellsOf v) with
          | some (cs,σ')=>match blk σ'.bl d with
            | some ⟨.arr,sz,rows⟩=>match rows[a]? with
              | some r=>match nle (j+i.size) r.length with
                | true=>some {σ' with bl:=setB σ'.bl d ⟨.arr,sz,rows.set a (overL r j cs)⟩}
                | false=>none
              | none=>none
            | _=>none
          | none=>none
        | _=>none
      | false=>none
    | _=>none
  | none=>none
def stBuildSlice (T:Tys)(σ:St)(dst:Option Tmp)(t:TypeId)(len:Nat)(ps:List (Nat × Operand)):Option St:=
  match dst,T t with
  | some d,some ⟨.slice e,_,_,_⟩=>match T e,len,ps with
    | some ie,0,[]=>match blk σ.bl d with
      | none=>some {σ with sl:=setL σ.sl d (.own d),bl:=(d,⟨.arr,ie.size,[]⟩)::σ.bl}
      | some _=>none
    | some ie,1,[(0,x)]=>match nq (cellsOf (σ.get x)).length ie.size && decide (0 < ie.size) && decide (ie.size≤1000) && allB slotB (cellsOf (σ.get x)) with
      | true=>match blk σ.bl d with
        | none=>some {σ with sl:=setL σ.sl d (.own d),bl:=(d,⟨.lit,ie.size,[cellsOf (σ.get x)]⟩)::σ.bl}
        | some _=>none
      | false=>none
    | _,_,_=>none
  | _,_=>none
def buildP (fs:List (Nat × Nat))(σ:St):List PV→List (Nat × Operand)→Option (List PV)
  | l,[]=>some l
  | l,(i,x)::rest=>match fs[i]? with
    | some (off,sz)=>match nq (cellsOf (σ.get x)).length sz && nle (off+sz) l.length && allB slotB (cellsOf (σ.get x)) with
      | true=>buildP fs σ (overL l off (cellsOf (σ.get x))) rest
      | false=>none
    | none=>none
def stBuild (T:Tys)(σ:St)(dst:Option Tmp)(t:TypeId)(ps:List (Nat × Operand)):Option St:=
  match T t with
  | some ⟨.struct fs _ _,_,_,z⟩=>match buildP fs σ z ps with
    | some l=>some (σ.put dst (.agg l))
    | none=>none
  | _=>none
def stMakeSlice (T:Tys)(σ:St)(dst:Option Tmp)(t:TypeId)(l c:PV):Option St:=
  match dst,T t with
  | some d,some ⟨.slice e,_,_,_⟩=>match T e,l,c with
    | some ie,.int .i64 n,.int .i64 m=>match decide (n=m) && decide (0≤n) && decide (n * ie.bytes≤140737488355328) && decide (0 < ie.bytes) && decide (0 < ie.size) with
      | true=>match blk σ.bl d with
        | none=>some {σ with sl:=setL σ.sl d (.own d),bl:=(d,⟨.arr,ie.size,List.replicate n.toNat ie.zero⟩)::σ.bl}
        | some _=>none
      | false=>none
    | _,_,_=>none
  | _,_=>none
def stLen (T:Tys)(σ:St)(dst:Option Tmp)(t:TypeId)(x:PV):Option St:=
  match T t with
  | some ⟨.slice _,_,_,_⟩=>match x with
    | .own d=>match blk σ.bl d with
      | some ⟨.arr,_,rows⟩=>some (σ.put dst (.int .i64 rows.length))
      | some ⟨.lit,_,_⟩=>some (σ.put dst (.int .i64 1))
      | _=>none
    | .sl _ rows=>some (σ.put dst (.int .i64 rows.length))
    | .zc=>some (σ.put dst (.int .i64 0))
    | _=>none
  | some ⟨.str,_,_,_⟩=>match x with
    | .str s=>some (σ.put dst (.int .i64 s.size))
    | _=>none
  | _=>none
def newsOf (σ:St)(sz:Nat)(y:PV):Option (List (List PV) × St):=
  match y with
  | .own d=>match blk σ.bl d with
    | some ⟨.arr,sz',rows⟩=>bif nq sz' sz then some (rows,σ.drop d) else none
    | some ⟨.lit,sz',[r]⟩=>bif nq sz' sz then (match absorbL (σ.drop d) r with | some (r',σ')=>some ([r'],σ') | none=>none) else none
    | _=>none
  | .sl sz' rows=>bif nq sz' sz then some (rows,σ) else none
  | .zc=>some ([],σ)
  | _=>none
def stAppend (T:Tys)(σ:St)(dst:Option Tmp)(t:TypeId)(x y:Operand):Option St:=
  match dst,T t with
  | some dd,some ⟨.slice e,_,_,_⟩=>match T e with
    | some ie=>match newsOf σ ie.size (σ.get y) with
      | some (news,σ')=>match σ'.get x with
        | .own d=>match blk σ'.bl d with
          | some ⟨.arr,sz,rows⟩=>match nq sz ie.size && decide ((rows.length+news.length) * ie.bytes≤140737488355328) && decide (0 < ie.bytes) && decide (0 < ie.size) with
            | true=>some {sl:=setL (killS d σ'.sl) dd (.own d),bl:=setB (killB d σ'.bl) d ⟨.arr,sz,rows++news⟩,hd:=delV σ'.hd d}
            | false=>none
          | _=>none
        | .zc=>match decide (news.length * ie.bytes≤140737488355328) && decide (0 < ie.bytes) && decide (0 < ie.size) with
          | true=>match blk σ'.bl dd with
            | none=>some {σ' with sl:=setL σ'.sl dd (.own dd),bl:=(dd,⟨.arr,ie.size,news⟩)::σ'.bl}
            | some _=>none
          | false=>none
        | _=>none
      | none=>none
    | none=>none
  | _,_=>none
def boundOf (σ:St)(n:Int):Option Operand→Option Int
  | none=>some n
  | some x=>match σ.get x with
    | .int _ m=>some m
    | _=>none
def stSlice (T:Tys)(σ:St)(dst:Option Tmp)(t:TypeId)(x:PV)(lo hi mx:Option Operand):Option St:=
  match T t,mx with
  | some ⟨.slice e,_,_,_⟩,none=>match T e,x with
    | some ie,.sl sz rows=>match boundOf σ 0 lo,boundOf σ rows.length hi with
      | some l,some h=>match decide (0≤l) && decide (l≤h) && decide (h≤rows.length) && nq sz ie.size with
        | true=>some (σ.put dst (.sl sz ((rows.drop l.toNat).take (h.toNat - l.toNat))))
        | false=>none
      | _,_=>none
    | some ie,.own d=>match blk σ.bl d,lo,hi with
      | some ⟨.arr,sz,rows⟩,some z,none=>match σ.get z with
        | .int _ n=>match decide (0≤n) && decide (n≤rows.length) && nq sz ie.size with
          | true=>some (σ.put dst .bad)
          | false=>none
        | _=>none
      | _,_,_=>none
    | _,_=>none
  | _,_=>none
def rowNum :List PV→Int
 | [.int _ n]=>n
 | _=>0
def nums :List (List PV)→List Int
 | []=>[]
 | r::l=>rowNum r::nums l
def bytesB :List (List PV)→Bool
 | []=>true
 | [.int .u8 _]::l=>bytesB l
 | _=>false
def rowsOf (bl:List (Nat × Blk)):PV→Option (List (List PV))
  | .sl _ rows=>some rows
  | .own d=>match blk bl d with
    | some ⟨.arr,_,rows⟩=>some rows
    | some ⟨.lit,_,[r]⟩=>some [r]
    | _=>none
  | .zc=>some []
  | _=>none
def isU8 (T:Tys)(e:TypeId):Bool:=match T e with | some ⟨.int .u8,1,_,_⟩=>true | _=>false
def stConv (T:Tys)(σ:St)(dst:Option Tmp)(t t':TypeId)(x:PV):Option St:=
  match T t,T t' with
  | some ⟨ts,_,_,_⟩,some ⟨.int k,_,_,_⟩=>match ts,x with
    | .int _,.int _ n=>some (σ.put dst (.int k (k.wrap n)))
    | _,_=>none
  | some ⟨.slice e,_,_,_⟩,some ⟨.str,_,_,_⟩=>match isU8 T e,rowsOf σ.bl x with
    | true,some rows=>bif bytesB rows then some (σ.put dst (.str (strOfNums (nums rows)))) else none
    | _,_=>none
  | _,_=>none
def stSlice3 (T:Tys)(σ:St)(dst:Option Tmp)(t:TypeId)(x:PV)(lo:Option Operand)(hi mx:PV):Option St:=
  match T t,lo,x,dst with
  | some ⟨.slice e,_,_,_⟩,none,.own d,some dd=>match T e,blk σ.bl d,hi,mx with
    | some ie,some ⟨.arr,sz,rows⟩,.int _ n,.int _ n'=>match decide (n=rows.length) && decide (n'=rows.length) && nq sz ie.size with
      | true=>some {sl:=setL (killS d σ.sl) dd (.own d),bl:=setB (killB d σ.bl) d ⟨.arr,sz,rows⟩,hd:=delV σ.hd d}
      | false=>none
    | _,_,_,_=>none
  | _,_,_,_=>none
def byteAt (s:ByteArray)(i:Int):Int:=match s[i.toNat]? with
 | some b=>b.toNat
 | none=>0
def stIndex (T:Tys)(σ:St)(dst:Option Tmp)(t:TypeId)(x ix:PV):Option St:=
  match T t,x,ix with
  | some ⟨.str,_,_,_⟩,.str s,.int _ i=>match decide (0≤i) && decide (i < s.size) with
    | true=>some (σ.put dst (.int .u8 (byteAt s i)))
    | false=>none
  | _,_,_=>none
def step (T:Tys)(σ:St)(o:Oper):Option St:=
  match o.op with
  | .move x | .assign x=>some (σ.put o.dst (σ.get x))
  | .pick c a b=>match σ.get c with
    | .bool t=>some (σ.put o.dst (bif t then σ.get a else σ.get b))
    | _=>none
  | .binOp op t x y _=>match binopT T op t (σ.get x) (σ.get y) with
    | some v=>some (σ.put o.dst v)
    | none=>none
  | .unOp .not _ x=>match σ.get x with
    | .bool t=>some (σ.put o.dst (.bool !t))
    | _=>none
  | .box t x=>stBox T σ o.dst t (σ.get x)
  | .alloc t=>stAlloc T σ o.dst t
  | .load t x=>stLoad T σ o.dst t (σ.get x)
  | .fieldAddr s x f=>stFieldAddr T σ o.dst s (σ.get x) f
  | .indexAddr t x ix=>stIndexAddr T σ o.dst t (σ.get x) (σ.get ix)
  | .store t x v=>match o.dst with
    | none=>stStore T σ t (σ.get x) (σ.get v)
    | some _=>none
  | .buildSlice t len ps=>stBuildSlice T σ o.dst t len ps.toList
  | .slice t x lo hi none=>stSlice T σ o.dst t (σ.get x) lo hi none
  | .slice t x lo (some hi) (some mx)=>stSlice3 T σ o.dst t (σ.get x) lo (σ.get hi) (σ.get mx)
  | .build t ps=>stBuild T σ o.dst t ps.toList
  | .makeSlice t l c=>stMakeSlice T σ o.dst t (σ.get l) (σ.get c)
  | .convert t t' x=>stConv T σ o.dst t t' (σ.get x)
  | .index t x ix=>stIndex T σ o.dst t (σ.get x) (σ.get ix)
  | .extract x n=>match σ.get x with
    | .tup vs=>bif nlt n vs.length then some (σ.put o.dst (getL vs n)) else none
    | _=>none
  | .nilCheck x=>match σ.get x with
    | .pt d a j=>some (σ.put o.dst (.pt d a j))
    | .rd cs=>some (σ.put o.dst (.rd cs))
    | _=>none
  | .makeFunc (.func f) first caps=>match first.toList with
    | []=>some (σ.put o.dst (.fn f (caps.toList.map σ.get)))
    | _=>none
  | .call c=>match c.callee,c.args.toList,c.argTypes.toList with
    | .builtin .len,[x],[t]=>stLen T σ o.dst t (σ.get x)
    | .builtin .append,[x,y],[t,t']=>bif nq t t' then stAppend T σ o.dst t x y else none
    | _,_,_=>none
  | _=>none
def bindC (own:Bool)(id:Nat):PV→PV × Option Blk
 | .ow sz rows=>bif own then (.own id,some ⟨.arr,sz,rows⟩) else (.sl sz (eraseR rows),none)
 | .raw _=>(.bad,none)
 | v=>(v,none)
def bindL (own:Bool)(id:Nat):List PV→List PV × List (Nat × Blk)
 | []=>([],[])
 | c::l=>
  let r:=bindC own id c
  let s:=bindL own (id+1000) l
  (r.1::s.1,match r.2 with | some b=>(id,b)::s.2 | none=>s.2)
def bindV (own:Bool)(id:Nat):PV→PV × List (Nat × Blk)
 | .agg cs=>let r:=bindL own id cs;(.agg r.1,r.2)
 | v=>let r:=bindC own id v;(r.1,match r.2 with | some b=>[(id,b)] | none=>[])
def bindT (own:Bool)(id:Nat):List PV→List PV × List (Nat × Blk)
 | []=>([],[])
 | c::l=>
  let r:=bindV own id c
  let s:=bindT own (id+100000) l
  (r.1::s.1,r.2++s.2)
def bindR (own:Bool)(id:Nat):PV→PV × List (Nat × Blk)
 | .tup vs=>let r:=bindT own id vs;(.tup r.1,r.2)
 | v=>bindV own id v
mutual
def fresh :PV→Prop
 | .sl _ _=>False
 | .ow _ rows=>freshR rows
 | .agg cs=>freshL cs
 | .tup vs=>freshL vs
 | .own _ | .pt _ _ _ | .rd _ | .fn _ _=>False
 | _=>True
def freshL :List PV→Prop
 | []=>True
 | c::l=>fresh c∧freshL l
def freshR :List (List PV)→Prop
 | []=>True
 | r::l=>freshL r∧freshR l
end
mutual
def noH :PV→Bool
 | .own _ | .pt _ _ _=>false
 | .agg cs=>noHL cs
 | .tup vs=>noHL vs
 | .fn _ caps=>noHL caps
 | _=>true
def noHL :List PV→Bool
 | []=>true
 | c::l=>noH c && noHL l
end
def freeB (bl:List (Nat × Blk)):List (Nat × Blk)→Bool
 | []=>true
 | (d,_)::l=>(match blk bl d with | none=>true | some _=>false) && (match blk l d with | none=>true | some _=>false) && freeB bl l
structure Spec where
 r:FuncId→List PV→PV→Prop
 m:FuncId→List PV→List PV→PV→Prop
 c:FuncId→List PV→PV→Prop
instance :CoeFun Spec (fun _=>FuncId→List PV→PV→Prop):=⟨Spec.r⟩
def memN (d:Nat):List Nat→Bool
 | []=>false
 | e::l=>nq e d || memN d l
def nodupB :List Nat→Bool
 | []=>true
 | d::l=> !memN d l && nodupB l
def lend1 (bl:List (Nat × Blk)):PV→Option PV
 | .own d=>match blk bl d with | some ⟨.arr,sz,rows⟩=>some (.ow sz rows) | _=>none
 | v=>bif leafB v then some v else none
def lendL (bl:List (Nat × Blk)):List PV→Option (List PV)
  | []=>some []
  | c::l=>match lend1 bl c,lendL bl l with
    | some c',some l'=>some (c'::l')
    | _,_=>none
def lendV (bl:List (Nat × Blk)):PV→Option PV
 | .agg cs=>match lendL bl cs with | some cs'=>some (.agg cs') | none=>none
 | v=>lend1 bl v
def lendS (bl:List (Nat × Blk)):List PV→Option (List PV)
  | []=>some []
  | c::l=>match lendV bl c,lendS bl l with
    | some c',some l'=>some (c'::l')
    | _,_=>none
def owns1 :PV→List Nat
 | .own d=>[d]
 | _=>[]
def ownsL :List PV→List Nat
 | []=>[]
 | c::l=>owns1 c++ownsL l
def ownsV :PV→List Nat
 | .agg cs=>ownsL cs
 | v=>owns1 v
def ownsS :List PV→List Nat
 | []=>[]
 | c::l=>ownsV c++ownsS l
def back1 (bl:List (Nat × Blk)):PV→PV→Option (List (Nat × Blk))
  | .own d,.ow sz rows=>match blk bl d with
    | some ⟨.arr,sz',_⟩=>bif nq sz' sz then some (setB bl d ⟨.arr,sz,rows⟩) else none
    | _=>none
  | .own _,_=>none
  | _,_=>some bl
def backL (bl:List (Nat × Blk)):List PV→List PV→Option (List (Nat × Blk))
  | [],[]=>some bl
  | c::l,c'::l'=>match back1 bl c c' with
    | some bl'=>backL bl' l l'
    | none=>none
  | _,_=>none
def backV (bl:List (Nat × Blk)):PV→PV→Option (List (Nat × Blk))
 | .agg cs,.agg cs'=>backL bl cs cs'
 | .agg _,_=>none
 | c,c'=>back1 bl c c'
def backS (bl:List (Nat × Blk)):List PV→List PV→Option (List (Nat × Blk))
  | [],[]=>some bl
  | c::l,c'::l'=>match backV bl c c' with
    | some bl'=>backS bl' l l'
    | none=>none
  | _,_=>none
def plainR :PV→Bool
 | .tup vs=>allB leafB vs
 | .agg cs=>allB leafB cs
 | v=>leafB v
def callOf (σ:St)(o:Oper):Option (FuncId × List PV):=
  match o.op with
  | .call c=>match c.callee with
    | .value f=>match σ.get f with
      | .fn g caps=>some (g,c.args.toList.map σ.get++caps)
      | _=>none
    | _=>none
  | _=>none
def St.bind (σ:St)(d:Nat)(r:PV):St:={σ with sl:=setL σ.sl d (bindR true d r).1,bl:=(bindR true d r).2++σ.bl}
def froze1 :PV→PV
 | .agg cs=>.agg (eraseL cs)
 | c=>erase c
def frozeL :List PV→List PV
 | []=>[]
 | c::l=>froze1 c::frozeL l
def froze :PV→PV
 | .tup vs=>.tup (frozeL vs)
 | c=>froze1 c
def aop0 (T:Tys)(X:Spec)(o:Oper)(K:St→Prop)(σ:St):Prop:=
  match callOf σ o,o.dst with
  | some (g,args),some d=>∃ r,X g (viewS σ.bl args) r∧(fresh r∨noHL args=true)∧((freeB σ.bl (bindR true d r).2=true∧K (σ.bind d r))∨K (σ.put (some d) (froze r)))
  | _,_=>match step T σ o with
    | some σ'=>K σ'
    | none=>False
def aopM (X:Spec)(o:Oper)(K:St→Prop)(σ:St):Prop:=
 ∃ g args args1 args2 r bl',callOf σ o=some (g,args)∧lendS σ.bl args=some args1∧nodupB (ownsS args)=true∧X.m g args1 args2 r∧plainR r=true∧backS σ.bl args args2=some bl'∧
  K (St.put {σ with bl:=bl'} o.dst r)
def aopN (T:Tys)(o:Oper)(K:St→Prop)(σ:St):Prop:=
 ∃ t x i dd d a j sz rows r s nrows,o.op=.load t x∧o.dst=some dd∧T t=some i∧i.isAgg=false∧σ.get x=.pt d a j∧blk σ.bl d=some ⟨.arr,sz,rows⟩∧rows[a]? =some r∧r[j]? =some (.ow s nrows)∧
  blk σ.bl dd=none∧∀ v,K {σ with sl:=setL σ.sl dd (.own dd),bl:=(dd,⟨.arr,s,nrows⟩)::setB σ.bl d ⟨.arr,sz,rows.set a (setL r j (.raw v))⟩,hd:=(dd,v)::σ.hd}
def aopQ (T:Tys)(o:Oper)(K:St→Prop)(σ:St):Prop:=
 ∃ op t x y t' e a b c rows,o.op=.binOp op t x y t'∧T t=some ⟨.slice e,a,b,c⟩∧σ.get y=.zc∧rowsOf σ.bl (σ.get x)=some rows∧((op=.eql∧∀ b:Bool,(b=true→rows=[])→K (σ.put o.dst (.bool b)))∨(op=.neq∧∀ b:Bool,(b=false→rows=[])→K (σ.put o.dst (.bool b))))
def aopC (X:Spec)(o:Oper)(K:St→Prop)(σ:St):Prop:=
 ∃ g args args1 r d d0,callOf σ o=some (g,args)∧o.dst=some d∧lendS σ.bl args=some args1∧ownsS args=[d0]∧X.c g args1 r∧freeB (σ.drop d0).bl (bindR true d r).2=true∧K ((σ.drop d0).bind d r)
def close1 (σ:St):PV→Option (PV × St)
  | .agg cs=>match absorbL σ cs with
    | some (cs',σ')=>some (.agg cs',σ')
    | none=>none
  | .own d=>match blk σ.bl d with
    | some ⟨.lit,sz,[r]⟩=>match absorbL (σ.drop d) r with
      | some (r',σ')=>some (.ow sz [r'],σ')
      | none=>none
    | _=>absorb1 σ (.own d)
  | v=>absorb1 σ v
inductive Tw where
 | back (D d i j:Nat)
 | freeze (d:Nat)
 | slot (k d sz:Nat)
 | cell (b j d sz:Nat)
 | up (d:Nat)
 | arr (d:Nat)
 | frz (k:Nat)
 | slotC (k j d sz:Nat)
 | zrow (d sz:Nat)
 | ren (d e:Nat)
 | drop (d:Nat)
def renN (d e x:Nat):Nat:=bif nq x d then e else x
mutual
def renV (d e:Nat):PV→PV
 | .own x=>.own (renN d e x)
 | .pt x i j=>.pt (renN d e x) i j
 | .agg cs=>.agg (renS d e cs)
 | .tup vs=>.tup (renS d e vs)
 | .fn f caps=>.fn f (renS d e caps)
 | c=>c
def renS (d e:Nat):List PV→List PV
 | []=>[]
 | c::l=>renV d e c::renS d e l
end
def renB (d e:Nat):List (Nat × Blk)→List (Nat × Blk)
 | []=>[]
 | (x,⟨.arr,sz,rows⟩)::l=>(renN d e x,⟨.arr,sz,rows⟩)::renB d e l
 | (x,⟨k,sz,[r]⟩)::l=>(renN d e x,⟨k,sz,[renS d e r]⟩)::renB d e l
 | (x,⟨k,sz,_⟩)::l=>(renN d e x,⟨k,sz,[]⟩)::renB d e l
def fixC (sz:Nat):PV→PV
 | .zc=>.ow sz []
 | c=>c
def fixR (sz:Nat)(rows:List (List PV)):List (List PV):=rows.map fun r=>r.map (fixC sz)
mutual
def thaw (d:Nat)(v:PV):PV→PV
 | .own e=>bif nq e d then v else .own e
 | .pt e i j=>bif nq e d then .bad else .pt e i j
 | .agg cs=>.agg (thawS d v cs)
 | .tup vs=>.tup (thawS d v vs)
 | .fn f caps=>.fn f (thawS d v caps)
 | c=>c
def thawS (d:Nat)(v:PV):List PV→List PV
 | []=>[]
 | c::l=>thaw d v c::thawS d v l
end
def thawB (d:Nat)(v:PV):List (Nat × Blk)→List (Nat × Blk)
 | []=>[]
 | (e,⟨.arr,sz,rows⟩)::l=>(e,⟨.arr,sz,rows⟩)::thawB d v l
 | (e,⟨k,sz,[r]⟩)::l=>(e,⟨k,sz,[thawS d v r]⟩)::thawB d v l
 | (e,⟨k,sz,_⟩)::l=>(e,⟨k,sz,[]⟩)::thawB d v l
open Classical in
noncomputable def tweak1 (σ:St):Tw→Option St
  | .back D d i j=>match blk σ.bl D,lookV σ.hd D,blk (σ.drop D).bl d with
    | some ⟨.arr,s,nrows⟩,some v,some ⟨.arr,sz,rows⟩=>match rows[i]? with
      | some r=>if r[j]? =some (.raw v)∧D≠d then some {σ.drop D with bl:=setB (σ.drop D).bl d ⟨.arr,sz,rows.set i (setL r j (.ow s nrows))⟩} else none
      | none=>none
    | _,_,_=>none
  | .freeze d=>match blk σ.bl d with
    | some ⟨.arr,sz,rows⟩=>some {sl:=thawS d (.sl sz (eraseR rows)) σ.sl,bl:=thawB d (.sl sz (eraseR rows)) (delB σ.bl d),hd:=delV σ.hd d}
    | _=>none
  | .slot k d sz=>match getL σ.sl k,blk σ.bl d with
    | .zc,none=>some {σ with sl:=setL σ.sl k (.own d),bl:=(d,⟨.arr,sz,[]⟩)::σ.bl}
    | _,_=>none
  | .cell b j d sz=>match blk σ.bl b,blk σ.bl d with
    | some ⟨.var,n,[r]⟩,none=>match getL r j with
      | .zc=>some {σ with bl:=(d,⟨.arr,sz,[]⟩)::setB σ.bl b ⟨.var,n,[setL r j (.own d)]⟩}
      | _=>none
    | _,_=>none
  | .up d=>match blk σ.bl d with
    | some b=>some {σ with bl:=(d,b)::delB σ.bl d}
    | none=>none
  | .arr d=>match blk σ.bl d with
    | some ⟨.lit,sz,[r]⟩=>match allB leafB r with
      | true=>some {σ with bl:=setB σ.bl d ⟨.arr,sz,[r]⟩}
      | false=>none
    | _=>none
  | .frz k=>match close1 σ (getL σ.sl k) with
    | some (r,σ')=>some {σ' with sl:=setL σ'.sl k (froze1 r)}
    | none=>none
  | .drop d=>some (σ.drop d)
  | .ren d e=>match blk σ.bl d,blk σ.bl e,lookV σ.hd d with
    | some _,none,none=>some {σ with sl:=renS d e σ.sl,bl:=renB d e σ.bl}
    | _,_,_=>none
  | .zrow d sz=>match blk σ.bl d with
    | some ⟨.arr,s,rows⟩=>some {σ with bl:=setB σ.bl d ⟨.arr,s,fixR sz rows⟩}
    | _=>none
  | .slotC k j d sz=>match getL σ.sl k,blk σ.bl d with
    | .agg cs,none=>match getL cs j with
      | .zc=>some {σ with sl:=setL σ.sl k (.agg (setL cs j (.own d))),bl:=(d,⟨.arr,sz,[]⟩)::σ.bl}
      | _=>none
    | _,_=>none
noncomputable def tweak (σ:St):List Tw→Option St
  | []=>some σ
  | t::l=>match tweak1 σ t with
    | some σ'=>tweak σ' l
    | none=>none
def aopT (T:Tys)(X:Spec)(o:Oper)(K:St→Prop)(σ:St):Prop:=
 ∃ tw,aop0 T X o (fun σ1=>∃ σ2,tweak σ1 tw=some σ2∧K σ2) σ
def partsM (σ:St):Nat→List (Nat × Operand)→Option (List (List PV))
  | _,[]=>some []
  | i,(j,x)::l=>match nq j i,σ.get x with
    | true,.str s=>match partsM σ (i+1) l with
      | some rs=>some ([.str s]::rs)
      | none=>none
    | true,.int k n=>match partsM σ (i+1) l with
      | some rs=>some ([.int k n]::rs)
      | none=>none
    | _,_=>none
def stBuildM (T:Tys)(σ:St)(dst:Option Tmp)(t:TypeId)(len:Nat)(ps:List (Nat × Operand)):Option St:=
  match dst,T t with
  | some d,some ⟨.slice e,_,_,_⟩=>match T e,partsM σ 0 ps,blk σ.bl d with
    | some ie,some rows,none=>match nq ie.size 1 && nq len rows.length && nlt 0 len && nle len 1000 with
      | true=>some {σ with sl:=setL σ.sl d (.own d),bl:=(d,⟨.arr,1,rows⟩)::σ.bl}
      | false=>none
    | _,_,_=>none
  | _,_=>none
def stepE (T:Tys)(σ:St)(o:Oper):Option St:=
  match o.op with
  | .unOp .neg _ x=>match σ.get x with
    | .int k n=>some (σ.put o.dst (.int k (k.wrap (0 - n))))
    | _=>none
  | .buildSlice t len ps=>stBuildM T σ o.dst t len ps.toList
  | .slice t x (some lo) (some hi) none=>match T t,σ.get x,σ.get lo,σ.get hi with
    | some ⟨.str,_,_,_⟩,.str s,.int _ l,.int _ h=>match decide (0≤l) && decide (l≤h) && decide (h≤s.size) with
      | true=>some (σ.put o.dst (.str (s.extract l.toNat h.toNat)))
      | false=>none
    | _,_,_,_=>none
  | .call c=>match c.callee,c.args.toList with
    | .builtin .max,[x,y]=>match σ.get x,σ.get y with
      | .int .i64 a,.int .i64 b=>some (σ.put o.dst (.int .i64 (max a b)))
      | _,_=>none
    | .builtin .min,[x,y]=>match σ.get x,σ.get y with
      | .int .i64 a,.int .i64 b=>some (σ.put o.dst (.int .i64 (min a b)))
      | _,_=>none
    | _,_=>none
  | .binOp .shr _ x y _=>match σ.get x,σ.get y with
    | .int k a,.int _ b=>match decide (0≤b) && decide (b≤(k.bits:Int)) with
      | true=>some (σ.put o.dst (.int k (a.fdiv (2 ^ b.toNat))))
      | false=>none
    | _,_=>none
  | .field t x f=>match T t,σ.get x with
    | some ⟨.struct fs _ one,_,_,_⟩,.agg cs=>match fs[f]?,one[f]? with
      | some (off,_),some true=>match cs[off]? with
        | some c=>some (σ.put o.dst c)
        | none=>none
      | _,_=>none
    | _,_=>none
  | _=>none
def aopE (T:Tys)(o:Oper)(K:St→Prop)(σ:St):Prop:=∃ σ1,stepE T σ o=some σ1∧K σ1
def aop (T:Tys)(X:Spec)(o:Oper)(K:St→Prop)(σ:St):Prop:=aop0 T X o K σ∨aopM X o K σ∨aopN T o K σ∨aopQ T o K σ∨aopC X o K σ∨aopT T X o K σ∨aopE T o K σ
def dstOf :List Oper→Nat→Option Tmp
 | [],_=>none
 | o::_,0=>o.dst
 | _::l,n+1=>dstOf l n
def aops (T:Tys)(X:Spec)(all:List Oper):List Oper→(St→Prop)→St→Prop
  | [],K,σ=>K σ
  | o::rest,K,σ=>match o.guard with
    | none=>aop T X o (aops T X all rest K) σ
    | some (j,want)=>match dstOf all j with
      | some t=>match getL σ.sl t with
        | .bool b=>(b=want→aop T X o (aops T X all rest K) σ)∧(b=(!want)→aops T X all rest K (σ.put o.dst (.tup [])))
        | .tup []=>aops T X all rest K (σ.put o.dst (.tup []))
        | _=>False
      | none=>False
def keepL :Nat→List Nat→List PV→List PV
 | _,_,[]=>[]
 | _,[],_::l=>.bad::keepL 0 [] l
 | k,t::ts,c::l=>bif nq k t then c::keepL (k+1) ts l else .bad::keepL (k+1) (t::ts) l
def dropAll (ds:List Nat):List (Nat × Blk)→St→St
 | [],σ=>σ
 | (e,_)::l,σ=>bif memN e ds then dropAll ds l σ else dropAll ds l (σ.drop e)
def St.keep (σ:St)(ks ds:List Nat):St:=dropAll ds σ.bl {σ with sl:=keepL 0 ks σ.sl}
inductive AE where
 | normal
 | exit (id:Nat)
 | ret
def pureOp (o:Oper):Bool:=
  match o.op with
  | .move _ | .assign _ | .extract _ _ | .pick .. | .binOp .. | .unOp .. | .fieldAddr .. | .indexAddr .. | .load .. | .nilCheck _ | .makeFunc .. | .slice _ _ _ _ none=>true
  | .call c=>match c.callee with
    | .builtin .len=>true
    | _=>false
  | _=>false
def dop (T:Tys)(X:Spec)(o:Oper)(K:St→Prop)(σ:St):Prop:=
  match callOf σ o,o.dst with
  | some (g,args),some d=>∃ r,X g (viewS σ.bl args) r∧(fresh r∨noHL args=true)∧K (σ.put (some d) (froze r))
  | _,_=>match pureOp o,step T σ o with
    | true,some σ'=>K σ'
    | _,_=>False
def dops (T:Tys)(X:Spec)(all:List Oper):List Oper→(St→Prop)→St→Prop
  | [],K,σ=>K σ
  | o::rest,K,σ=>match o.guard with
    | none=>dop T X o (dops T X all rest K) σ
    | some (j,want)=>match dstOf all j with
      | some t=>match getL σ.sl t with
        | .bool b=>(b=want→dop T X o (dops T X all rest K) σ)∧(b=(!want)→dops T X all rest K (σ.put o.dst (.tup [])))
        | .tup []=>dops T X all rest K (σ.put o.dst (.tup []))
        | _=>False
      | none=>False
def bindsAny (e:Edge):Bool:=match e.ground with | .textOnly _ | .gcOnly _=>false | _=>true
def aheadE (go:Nat→Bool)(j:Nat):List Edge→Bool
  | []=>false
  | e::l=>match bindsAny e with
    | true=>match nq e.on j with
      | true=>true
      | false=>match go e.on with
        | true=>true
        | false=>aheadE go j l
    | false=>aheadE go j l
def ahead (ops:Array Oper):Nat→Nat→Nat→Bool
  | 0,_,_=>false
  | k+1,i,j=>match ops[i]? with
    | some o=>aheadE (fun n=>ahead ops k n j) j o.after.toList
    | none=>false
def nthN :List Nat→Nat→Nat
 | [],_=>0
 | b::_,0=>b
 | _::l,n+1=>nthN l n
def okEdge (rk:List Nat)(n i:Nat)(e:Edge):Bool:=match e.ground with
 | .gcOnly _=>nlt e.on n && nlt (nthN rk e.on) (nthN rk i)
 | .textOnly _=>nlt e.on i
 | _=>nlt e.on i && nlt (nthN rk e.on) (nthN rk i)
def okEdges (rk:List Nat)(ops:Array Oper):Bool:=
 (List.range ops.size).all fun i=>match ops[i]? with
  | some y=>y.after.toList.all fun e=>okEdge rk ops.size i e
  | none=>false
def okPairs (ops:Array Oper):Bool:=
  (List.range ops.size).all fun i=>match ops[i]? with
    | some y=>(List.range i).all fun j=>match ops[j]? with
      | some x=>match x.apart ops y with
        | true=>true
        | false=>ahead ops ops.size i j
      | none=>false
    | none=>false
def okDraw (rk:List Nat)(ops:Array Oper):Bool:=okEdges rk ops && okPairs ops
def nthB :List Bool→Nat→Bool
 | [],_=>false
 | b::_,0=>b
 | _::l,n+1=>nthB l n
def setT :List Bool→Nat→List Bool
 | [],_=>[]
 | _::l,0=>true::l
 | b::l,n+1=>b::setT l n
def cntF :List Bool→Nat
 | []=>0
 | true::l=>cntF l
 | false::l=>cntF l+1
def rdyOp (ops:Array Oper)(L:List Bool)(i:Nat):Option Oper:=
  match ops[i]? with
  | some o=>match !nthB L i && o.after.toList.all (fun e=> !bindsAny e || nthB L e.on) with
    | true=>some o
    | false=>none
  | none=>none
def allRdy (ops:Array Oper)(L:List Bool)(F:Nat→Oper→Prop):List Nat→Prop
  | []=>True
  | i::l=>match rdyOp ops L i with
    | some o=>F i o∧allRdy ops L F l
    | none=>allRdy ops L F l
def upto :Nat→Nat→List Nat
 | _,0=>[]
 | i,n+1=>i::upto (i+1) n
def dwp (T:Tys)(X:Spec)(ops:Array Oper)(K:St→Prop):Nat→List Bool→St→Prop
 | 0,_,σ=>∃ tw σ',tweak σ tw=some σ'∧K σ'
 | n+1,L,σ=>∃ tw σ',tweak σ tw=some σ'∧allRdy ops L (fun i o=>aops T X ops.toList [o] (dwp T X ops K n (setT L i)) σ') (upto 0 ops.size)
def falses :Nat→List Bool
 | 0=>[]
 | n+1=>false::falses n
def awp (T:Tys)(X:Spec):Code→(AE→St→Prop)→St→Prop
  | .skip,Q,σ=>Q .normal σ
  | .region _ ops false,Q,σ=>∃ tw σ',tweak σ tw=some σ'∧aops T X ops.toList ops.toList (fun σ1=>∃ tw2 σ2,tweak σ1 tw2=some σ2∧Q .normal σ2) σ'
  | .region _ ops true,Q,σ=>∃ tw σ',tweak σ tw=some σ'∧(((∃ rk,okDraw rk ops=true)∧dops T X ops.toList ops.toList (Q .normal) σ')∨((∃ rk,okEdges rk ops=true)∧dwp T X ops (Q .normal) ops.size (falses ops.size) σ'))
  | .seq a b,Q,σ=>awp T X a (fun e σ'=>match e with | .normal=>awp T X b Q σ' | e=>Q e σ') σ
  | .cond c a b,Q,σ=>match σ.get c with
    | .bool t=>(t=true→awp T X a Q σ)∧(t=false→awp T X b Q σ)
    | _=>False
  | .block id b,Q,σ=>awp T X b (fun e σ'=>match e with | .exit id'=>(id'=id→Q .normal σ')∧(id'≠id→Q (.exit id') σ') | e=>Q e σ') σ
  | .loop b,Q,σ=>∃ tw σ0 ks ds,∃ I:St→Nat→Prop,∃ n,tweak σ tw=some σ0∧I (σ0.keep ks ds) n∧
      ∀ σ n,I σ n→awp T X b (fun e σ'=>match e with | .normal=>∃ m,m < n∧I (σ'.keep ks ds) m | e=>Q e σ') σ
  | .exit id,Q,σ=>Q (.exit id) σ
  | .ret,Q,σ=>Q .ret σ
  | _,_,_=>False
def resVar (T:Tys)(σ:St):ResultVar→Option PV
  | .tmp t=>some (getL σ.sl t)
  | .cell a t=>match T t,getL σ.sl a with
    | some i,.pt d 0 j=>match blk σ.bl d with
      | some ⟨.var,_,[r]⟩=>loadOf i (r.drop j)
      | _=>none
    | _,_=>none
def closeL (T:Tys)(σ:St):List ResultVar→Option (List PV)
  | []=>some []
  | x::l=>match resVar T σ x with
    | some v=>match close1 σ v with
      | some (v',σ')=>match closeL T σ' l with
        | some l'=>some (v'::l')
        | none=>none
      | none=>none
    | none=>none
def tupOf :List PV→PV
 | [v]=>v
 | vs=>.tup vs
def initS (fn:Func)(args:List PV):St:={sl:=args++List.replicate (fn.ntmps - args.length) .bad,bl:=[]}
abbrev lentBase :Nat:=1000000000
def afun (T:Tys)(X:Spec)(fn:Func)(args:List PV)(r:PV):Prop:=
  match fn.body with
  | some c=>awp T X c (fun e σ=>match e with
    | .exit _=>False
    | _=>∃ vs,closeL T σ fn.results.toList=some vs∧r=tupOf vs) (initS fn args)
  | none=>False
end Go.Av

/- Lemmas and walks for FnExactServerNew: what each function of the program and of the reference comes to. -/
import Derived.WalkKit
import Derived.Laws.BytesArg
import Derived.Laws.AppendOwn
open List renaming replicate→aa0
namespace Go.Av
open Go
def nq (a b:Nat):Bool:=a == b
theorem eZ {a b:Nat}(h:nq a b=true):a=b:=beq_iff_eq.1 h
@[simp] theorem wY (a:Nat):nq a a=true:=beq_iff_eq.2 rfl
def zT (a b:Nat):Bool:=decide (a<=b)
theorem wZ {a b:Nat}(h:zT a b=true):a<=b:=of_decide_eq_true h
def rZ (a b:Nat):Bool:=decide (a < b)
theorem zU {a b:Nat}(h:rZ a b=true):a < b:=of_decide_eq_true h
inductive PV where
 | int (k:IntKind) (n:Int)
 | bool (b:Bool)
 | str (s:ByteArray)
 | zc
 | sl (sz:Nat) (rows:List (List PV))
 | ow (sz:Nat) (rows:List (List PV))
 | own (d:Nat)
 | pt (d i j:Nat)
 | rd (cs:List PV)
 | agg (cs:List PV)
 | aw (vs:List PV)
 | fn (f:FuncId) (caps:List PV)
 | raw (v:Value)
 | aa
 deriving Inhabited
abbrev dV:List PV:=[.aa,.aa,.aa]
abbrev iB:List PV:=.aa::dV
abbrev ql:List PV:=.aa::iB
abbrev F3:List PV:=.aa::ql
abbrev Vr:List PV:=.aa::F3
abbrev RJ:List PV:=.aa::Vr
abbrev F4:List PV:=.aa::RJ
abbrev tk:List PV:=.aa::F4
abbrev Th:List PV:=.aa::tk
abbrev Jz:List PV:=.aa::Th
abbrev xZ:List PV:=.aa::Jz
abbrev BI:List PV:=.aa::xZ
abbrev vg:List PV:=.aa::BI
abbrev ya:List PV:=.aa::vg
abbrev BJ:List PV:=.aa::ya
abbrev yb:List PV:=.aa::BJ
abbrev yc:List PV:=.aa::yb
abbrev rP:List PV:=.aa::yc
abbrev nE:List PV:=.aa::rP
abbrev NK:List PV:=.aa::nE
abbrev Ti:List PV:=[.aa,.aa,.aa,.aa,.aa,.aa,.aa,.aa,.aa,.aa,.aa,.aa,.aa,.aa,.aa,.aa,.aa,.aa,.aa,.aa,.aa,.aa,.aa,.aa]
abbrev Tj:List PV:=.aa::Ti
abbrev vh:List PV:=.aa::Tj
abbrev JA:List PV:=.aa::vh
abbrev Tk:List PV:=.aa::JA
abbrev BL:List PV:=.aa::Tk
abbrev NL:List PV:=.aa::BL
abbrev JB:List PV:=.aa::NL
abbrev JC:List PV:=.aa::JB
abbrev Tl:List PV:=.aa::JC
abbrev NM:List PV:=.aa::Tl
abbrev NN:List PV:=.aa::NM
abbrev JD:List PV:=.aa::NN
abbrev Tm:List PV:=.aa::JD
abbrev YH:List PV:=.aa::Tm
abbrev YI:List PV:=[.aa,.aa,.aa,.aa,.aa,.aa,.aa,.aa,.aa,.aa,.aa,.aa,.aa,.aa,.aa,.aa,.aa,.aa,.aa,.aa,.aa,.aa,.aa,.aa,.aa,.aa,.aa,.aa,.aa,.aa,.aa,.aa,.aa,.aa,.aa,.aa,.aa,.aa,.aa,.aa]
abbrev Tn:List PV:=[.aa,.aa,.aa,.aa,.aa,.aa,.aa,.aa,.aa,.aa,.aa,.aa,.aa,.aa,.aa,.aa,.aa,.aa,.aa,.aa,.aa,.aa,.aa,.aa,.aa,.aa,.aa,.aa,.aa,.aa,.aa,.aa,.aa,.aa,.aa,.aa,.aa,.aa,.aa,.aa,.aa,.aa,.aa]
abbrev NO:List PV:=.aa::Tn
abbrev BM:List PV:=.aa::NO
abbrev Ea:List PV:=.aa::BM
abbrev Tp:List PV:=[.aa,.aa,.aa,.aa,.aa,.aa,.aa,.aa,.aa,.aa,.aa,.aa,.aa,.aa,.aa,.aa,.aa,.aa,.aa,.aa,.aa,.aa,.aa,.aa,.aa,.aa,.aa,.aa,.aa,.aa,.aa,.aa,.aa,.aa,.aa,.aa,.aa,.aa,.aa,.aa,.aa,.aa,.aa,.aa,.aa,.aa,.aa,.aa]
abbrev Tq:List PV:=[.aa,.aa,.aa,.aa,.aa,.aa,.aa,.aa,.aa,.aa,.aa,.aa,.aa,.aa,.aa,.aa,.aa,.aa,.aa,.aa,.aa,.aa,.aa,.aa,.aa,.aa,.aa,.aa,.aa,.aa,.aa,.aa,.aa,.aa,.aa,.aa,.aa,.aa,.aa,.aa,.aa,.aa,.aa,.aa,.aa,.aa,.aa,.aa,.aa,.aa]
abbrev YJ:List PV:=.aa::Tq
abbrev yd:List PV:=[.aa,.aa,.aa,.aa,.aa,.aa,.aa,.aa,.aa,.aa,.aa,.aa,.aa,.aa,.aa,.aa,.aa,.aa,.aa,.aa,.aa,.aa,.aa,.aa,.aa,.aa,.aa,.aa,.aa,.aa,.aa,.aa,.aa,.aa,.aa,.aa,.aa,.aa,.aa,.aa,.aa,.aa,.aa,.aa,.aa,.aa,.aa,.aa,.aa,.aa,.aa,.aa,.aa]
abbrev Tr:List PV:=.aa::yd
abbrev NP:List PV:=.aa::Tr
abbrev Ts:List PV:=[.aa,.aa,.aa,.aa,.aa,.aa,.aa,.aa,.aa,.aa,.aa,.aa,.aa,.aa,.aa,.aa,.aa,.aa,.aa,.aa,.aa,.aa,.aa,.aa,.aa,.aa,.aa,.aa,.aa,.aa,.aa,.aa,.aa,.aa,.aa,.aa,.aa,.aa,.aa,.aa,.aa,.aa,.aa,.aa,.aa,.aa,.aa,.aa,.aa,.aa,.aa,.aa,.aa,.aa,.aa,.aa,.aa,.aa]
abbrev YK:List PV:=.aa::Ts
abbrev YL:List PV:=[.aa,.aa,.aa,.aa,.aa,.aa,.aa,.aa,.aa,.aa,.aa,.aa,.aa,.aa,.aa,.aa,.aa,.aa,.aa,.aa,.aa,.aa,.aa,.aa,.aa,.aa,.aa,.aa,.aa,.aa,.aa,.aa,.aa,.aa,.aa,.aa,.aa,.aa,.aa,.aa,.aa,.aa,.aa,.aa,.aa,.aa,.aa,.aa,.aa,.aa,.aa,.aa,.aa,.aa,.aa,.aa,.aa,.aa,.aa,.aa,.aa]
abbrev YM:List PV:=[.aa,.aa,.aa,.aa,.aa,.aa,.aa,.aa,.aa,.aa,.aa,.aa,.aa,.aa,.aa,.aa,.aa,.aa,.aa,.aa,.aa,.aa,.aa,.aa,.aa,.aa,.aa,.aa,.aa,.aa,.aa,.aa,.aa,.aa,.aa,.aa,.aa,.aa,.aa,.aa,.aa,.aa,.aa,.aa,.aa,.aa,.aa,.aa,.aa,.aa,.aa,.aa,.aa,.aa,.aa,.aa,.aa,.aa,.aa,.aa,.aa,.aa,.aa,.aa,.aa]
abbrev YN:List PV:=[.aa,.aa,.aa,.aa,.aa,.aa,.aa,.aa,.aa,.aa,.aa,.aa,.aa,.aa,.aa,.aa,.aa,.aa,.aa,.aa,.aa,.aa,.aa,.aa,.aa,.aa,.aa,.aa,.aa,.aa,.aa,.aa,.aa,.aa,.aa,.aa,.aa,.aa,.aa,.aa,.aa,.aa,.aa,.aa,.aa,.aa,.aa,.aa,.aa,.aa,.aa,.aa,.aa,.aa,.aa,.aa,.aa,.aa,.aa,.aa,.aa,.aa,.aa,.aa,.aa,.aa,.aa,.aa,.aa,.aa]
abbrev Tt:List PV:=[.aa,.aa,.aa,.aa,.aa,.aa,.aa,.aa,.aa,.aa,.aa,.aa,.aa,.aa,.aa,.aa,.aa,.aa,.aa,.aa,.aa,.aa,.aa,.aa,.aa,.aa,.aa,.aa,.aa,.aa,.aa,.aa,.aa,.aa,.aa,.aa,.aa,.aa,.aa,.aa,.aa,.aa,.aa,.aa,.aa,.aa,.aa,.aa,.aa,.aa,.aa,.aa,.aa,.aa,.aa,.aa,.aa,.aa,.aa,.aa,.aa,.aa,.aa,.aa,.aa,.aa,.aa,.aa,.aa,.aa,.aa,.aa]
abbrev JE:List PV:=.aa::Tt
abbrev NQ:List PV:=[.aa,.aa,.aa,.aa,.aa,.aa,.aa,.aa,.aa,.aa,.aa,.aa,.aa,.aa,.aa,.aa,.aa,.aa,.aa,.aa,.aa,.aa,.aa,.aa,.aa,.aa,.aa,.aa,.aa,.aa,.aa,.aa,.aa,.aa,.aa,.aa,.aa,.aa,.aa,.aa,.aa,.aa,.aa,.aa,.aa,.aa,.aa,.aa,.aa,.aa,.aa,.aa,.aa,.aa,.aa,.aa,.aa,.aa,.aa,.aa,.aa,.aa,.aa,.aa,.aa,.aa,.aa,.aa,.aa,.aa,.aa,.aa,.aa,.aa,.aa,.aa,.aa]
abbrev YO:List PV:=.aa::NQ
abbrev Tu:List PV:=[.aa,.aa,.aa,.aa,.aa,.aa,.aa,.aa,.aa,.aa,.aa,.aa,.aa,.aa,.aa,.aa,.aa,.aa,.aa,.aa,.aa,.aa,.aa,.aa,.aa,.aa,.aa,.aa,.aa,.aa,.aa,.aa,.aa,.aa,.aa,.aa,.aa,.aa,.aa,.aa,.aa,.aa,.aa,.aa,.aa,.aa,.aa,.aa,.aa,.aa,.aa,.aa,.aa,.aa,.aa,.aa,.aa,.aa,.aa,.aa,.aa,.aa,.aa,.aa,.aa,.aa,.aa,.aa,.aa,.aa,.aa,.aa,.aa,.aa,.aa,.aa,.aa,.aa,.aa,.aa]
abbrev Tv:List PV:=.aa::Tu
abbrev YP:List PV:=[.aa,.aa,.aa,.aa,.aa,.aa,.aa,.aa,.aa,.aa,.aa,.aa,.aa,.aa,.aa,.aa,.aa,.aa,.aa,.aa,.aa,.aa,.aa,.aa,.aa,.aa,.aa,.aa,.aa,.aa,.aa,.aa,.aa,.aa,.aa,.aa,.aa,.aa,.aa,.aa,.aa,.aa,.aa,.aa,.aa,.aa,.aa,.aa,.aa,.aa,.aa,.aa,.aa,.aa,.aa,.aa,.aa,.aa,.aa,.aa,.aa,.aa,.aa,.aa,.aa,.aa,.aa,.aa,.aa,.aa,.aa,.aa,.aa,.aa,.aa,.aa,.aa,.aa,.aa,.aa,.aa,.aa,.aa,.aa,.aa,.aa]
abbrev YQ:List PV:=[.aa,.aa,.aa,.aa,.aa,.aa,.aa,.aa,.aa,.aa,.aa,.aa,.aa,.aa,.aa,.aa,.aa,.aa,.aa,.aa,.aa,.aa,.aa,.aa,.aa,.aa,.aa,.aa,.aa,.aa,.aa,.aa,.aa,.aa,.aa,.aa,.aa,.aa,.aa,.aa,.aa,.aa,.aa,.aa,.aa,.aa,.aa,.aa,.aa,.aa,.aa,.aa,.aa,.aa,.aa,.aa,.aa,.aa,.aa,.aa,.aa,.aa,.aa,.aa,.aa,.aa,.aa,.aa,.aa,.aa,.aa,.aa,.aa,.aa,.aa,.aa,.aa,.aa,.aa,.aa,.aa,.aa,.aa,.aa,.aa,.aa,.aa,.aa,.aa,.aa]
abbrev YR:List PV:=[.aa,.aa,.aa,.aa,.aa,.aa,.aa,.aa,.aa,.aa,.aa,.aa,.aa,.aa,.aa,.aa,.aa,.aa,.aa,.aa,.aa,.aa,.aa,.aa,.aa,.aa,.aa,.aa,.aa,.aa,.aa,.aa,.aa,.aa,.aa,.aa,.aa,.aa,.aa,.aa,.aa,.aa,.aa,.aa,.aa,.aa,.aa,.aa,.aa,.aa,.aa,.aa,.aa,.aa,.aa,.aa,.aa,.aa,.aa,.aa,.aa,.aa,.aa,.aa,.aa,.aa,.aa,.aa,.aa,.aa,.aa,.aa,.aa,.aa,.aa,.aa,.aa,.aa,.aa,.aa,.aa,.aa,.aa,.aa,.aa,.aa,.aa,.aa,.aa,.aa,.aa,.aa,.aa,.aa,.aa]
abbrev Tx:List PV:=[.aa,.aa,.aa,.aa,.aa,.aa,.aa,.aa,.aa,.aa,.aa,.aa,.aa,.aa,.aa,.aa,.aa,.aa,.aa,.aa,.aa,.aa,.aa,.aa,.aa,.aa,.aa,.aa,.aa,.aa,.aa,.aa,.aa,.aa,.aa,.aa,.aa,.aa,.aa,.aa,.aa,.aa,.aa,.aa,.aa,.aa,.aa,.aa,.aa,.aa,.aa,.aa,.aa,.aa,.aa,.aa,.aa,.aa,.aa,.aa,.aa,.aa,.aa,.aa,.aa,.aa,.aa,.aa,.aa,.aa,.aa,.aa,.aa,.aa,.aa,.aa,.aa,.aa,.aa,.aa,.aa,.aa,.aa,.aa,.aa,.aa,.aa,.aa,.aa,.aa,.aa,.aa,.aa,.aa,.aa,.aa,.aa,.aa,.aa]
abbrev tZ:List PV:=[.aa,.aa,.aa,.aa,.aa,.aa,.aa,.aa,.aa,.aa,.aa,.aa,.aa,.aa,.aa,.aa,.aa,.aa,.aa,.aa,.aa,.aa,.aa,.aa,.aa,.aa,.aa,.aa,.aa,.aa,.aa,.aa,.aa,.aa,.aa,.aa,.aa,.aa,.aa,.aa,.aa,.aa,.aa,.aa,.aa,.aa,.aa,.aa,.aa,.aa,.aa,.aa,.aa,.aa,.aa,.aa,.aa,.aa,.aa,.aa,.aa,.aa,.aa,.aa,.aa,.aa,.aa,.aa,.aa,.aa,.aa,.aa,.aa,.aa,.aa,.aa,.aa,.aa,.aa,.aa,.aa,.aa,.aa,.aa,.aa,.aa,.aa,.aa,.aa,.aa,.aa,.aa,.aa,.aa,.aa,.aa,.aa,.aa,.aa,.aa,.aa,.aa,.aa,.aa,.aa,.aa,.aa]
abbrev Vs:List PV:=[.aa,.aa,.aa,.aa,.aa,.aa,.aa,.aa,.aa,.aa,.aa,.aa,.aa,.aa,.aa,.aa,.aa,.aa,.aa,.aa,.aa,.aa,.aa,.aa,.aa,.aa,.aa,.aa,.aa,.aa,.aa,.aa,.aa,.aa,.aa,.aa,.aa,.aa,.aa,.aa,.aa,.aa,.aa,.aa,.aa,.aa,.aa,.aa,.aa,.aa,.aa,.aa,.aa,.aa,.aa,.aa,.aa,.aa,.aa,.aa,.aa,.aa,.aa,.aa,.aa,.aa,.aa,.aa,.aa,.aa,.aa,.aa,.aa,.aa,.aa,.aa,.aa,.aa,.aa,.aa,.aa,.aa,.aa,.aa,.aa,.aa,.aa,.aa,.aa,.aa,.aa,.aa,.aa,.aa,.aa,.aa,.aa,.aa,.aa,.aa,.aa,.aa,.aa,.aa,.aa,.aa,.aa,.aa,.aa,.aa,.aa,.aa,.aa,.aa,.aa,.aa,.aa,.aa,.aa,.aa,.aa,.aa,.aa,.aa,.aa,.aa]
abbrev Vt:List PV:=[.aa,.aa,.aa,.aa,.aa,.aa,.aa,.aa,.aa,.aa,.aa,.aa,.aa,.aa,.aa,.aa,.aa,.aa,.aa,.aa,.aa,.aa,.aa,.aa,.aa,.aa,.aa,.aa,.aa,.aa,.aa,.aa,.aa,.aa,.aa,.aa,.aa,.aa,.aa,.aa,.aa,.aa,.aa,.aa,.aa,.aa,.aa,.aa,.aa,.aa,.aa,.aa,.aa,.aa,.aa,.aa,.aa,.aa,.aa,.aa,.aa,.aa,.aa,.aa,.aa,.aa,.aa,.aa,.aa,.aa,.aa,.aa,.aa,.aa,.aa,.aa,.aa,.aa,.aa,.aa,.aa,.aa,.aa,.aa,.aa,.aa,.aa,.aa,.aa,.aa,.aa,.aa,.aa,.aa,.aa,.aa,.aa,.aa,.aa,.aa,.aa,.aa,.aa,.aa,.aa,.aa,.aa,.aa,.aa,.aa,.aa,.aa,.aa,.aa,.aa,.aa,.aa,.aa,.aa,.aa,.aa,.aa,.aa,.aa,.aa,.aa,.aa,.aa,.aa,.aa,.aa,.aa,.aa,.aa,.aa,.aa,.aa,.aa,.aa,.aa,.aa,.aa,.aa,.aa]
abbrev Vu:List PV:=[.aa,.aa,.aa,.aa,.aa,.aa,.aa,.aa,.aa,.aa,.aa,.aa,.aa,.aa,.aa,.aa,.aa,.aa,.aa,.aa,.aa,.aa,.aa,.aa,.aa,.aa,.aa,.aa,.aa,.aa,.aa,.aa,.aa,.aa,.aa,.aa,.aa,.aa,.aa,.aa,.aa,.aa,.aa,.aa,.aa,.aa,.aa,.aa,.aa,.aa,.aa,.aa,.aa,.aa,.aa,.aa,.aa,.aa,.aa,.aa,.aa,.aa,.aa,.aa,.aa,.aa,.aa,.aa,.aa,.aa,.aa,.aa,.aa,.aa,.aa,.aa,.aa,.aa,.aa,.aa,.aa,.aa,.aa,.aa,.aa,.aa,.aa,.aa,.aa,.aa,.aa,.aa,.aa,.aa,.aa,.aa,.aa,.aa,.aa,.aa,.aa,.aa,.aa,.aa,.aa,.aa,.aa,.aa,.aa,.aa,.aa,.aa,.aa,.aa,.aa,.aa,.aa,.aa,.aa,.aa,.aa,.aa,.aa,.aa,.aa,.aa,.aa,.aa,.aa,.aa,.aa,.aa,.aa,.aa,.aa,.aa,.aa,.aa,.aa,.aa,.aa,.aa,.aa,.aa,.aa,.aa,.aa]
abbrev Vv:List PV:=[.aa,.aa,.aa,.aa,.aa,.aa,.aa,.aa,.aa,.aa,.aa,.aa,.aa,.aa,.aa,.aa,.aa,.aa,.aa,.aa,.aa,.aa,.aa,.aa,.aa,.aa,.aa,.aa,.aa,.aa,.aa,.aa,.aa,.aa,.aa,.aa,.aa,.aa,.aa,.aa,.aa,.aa,.aa,.aa,.aa,.aa,.aa,.aa,.aa,.aa,.aa,.aa,.aa,.aa,.aa,.aa,.aa,.aa,.aa,.aa,.aa,.aa,.aa,.aa,.aa,.aa,.aa,.aa,.aa,.aa,.aa,.aa,.aa,.aa,.aa,.aa,.aa,.aa,.aa,.aa,.aa,.aa,.aa,.aa,.aa,.aa,.aa,.aa,.aa,.aa,.aa,.aa,.aa,.aa,.aa,.aa,.aa,.aa,.aa,.aa,.aa,.aa,.aa,.aa,.aa,.aa,.aa,.aa,.aa,.aa,.aa,.aa,.aa,.aa,.aa,.aa,.aa,.aa,.aa,.aa,.aa,.aa,.aa,.aa,.aa,.aa,.aa,.aa,.aa,.aa,.aa,.aa,.aa,.aa,.aa,.aa,.aa,.aa,.aa,.aa,.aa,.aa,.aa,.aa,.aa,.aa,.aa,.aa,.aa,.aa,.aa,.aa,.aa,.aa,.aa]
abbrev Vw:List PV:=[.aa,.aa,.aa,.aa,.aa,.aa,.aa,.aa,.aa,.aa,.aa,.aa,.aa,.aa,.aa,.aa,.aa,.aa,.aa,.aa,.aa,.aa,.aa,.aa,.aa,.aa,.aa,.aa,.aa,.aa,.aa,.aa,.aa,.aa,.aa,.aa,.aa,.aa,.aa,.aa,.aa,.aa,.aa,.aa,.aa,.aa,.aa,.aa,.aa,.aa,.aa,.aa,.aa,.aa,.aa,.aa,.aa,.aa,.aa,.aa,.aa,.aa,.aa,.aa,.aa,.aa,.aa,.aa,.aa,.aa,.aa,.aa,.aa,.aa,.aa,.aa,.aa,.aa,.aa,.aa,.aa,.aa,.aa,.aa,.aa,.aa,.aa,.aa,.aa,.aa,.aa,.aa,.aa,.aa,.aa,.aa,.aa,.aa,.aa,.aa,.aa,.aa,.aa,.aa,.aa,.aa,.aa,.aa,.aa,.aa,.aa,.aa,.aa,.aa,.aa,.aa,.aa,.aa,.aa,.aa,.aa,.aa,.aa,.aa,.aa,.aa,.aa,.aa,.aa,.aa,.aa,.aa,.aa,.aa,.aa,.aa,.aa,.aa,.aa,.aa,.aa,.aa,.aa,.aa,.aa,.aa,.aa,.aa,.aa,.aa,.aa,.aa,.aa,.aa,.aa,.aa,.aa,.aa,.aa]
abbrev Vx:List PV:=[.aa,.aa,.aa,.aa,.aa,.aa,.aa,.aa,.aa,.aa,.aa,.aa,.aa,.aa,.aa,.aa,.aa,.aa,.aa,.aa,.aa,.aa,.aa,.aa,.aa,.aa,.aa,.aa,.aa,.aa,.aa,.aa,.aa,.aa,.aa,.aa,.aa,.aa,.aa,.aa,.aa,.aa,.aa,.aa,.aa,.aa,.aa,.aa,.aa,.aa,.aa,.aa,.aa,.aa,.aa,.aa,.aa,.aa,.aa,.aa,.aa,.aa,.aa,.aa,.aa,.aa,.aa,.aa,.aa,.aa,.aa,.aa,.aa,.aa,.aa,.aa,.aa,.aa,.aa,.aa,.aa,.aa,.aa,.aa,.aa,.aa,.aa,.aa,.aa,.aa,.aa,.aa,.aa,.aa,.aa,.aa,.aa,.aa,.aa,.aa,.aa,.aa,.aa,.aa,.aa,.aa,.aa,.aa,.aa,.aa,.aa,.aa,.aa,.aa,.aa,.aa,.aa,.aa,.aa,.aa,.aa,.aa,.aa,.aa,.aa,.aa,.aa,.aa,.aa,.aa,.aa,.aa,.aa,.aa,.aa,.aa,.aa,.aa,.aa,.aa,.aa,.aa,.aa,.aa,.aa,.aa,.aa,.aa,.aa,.aa,.aa,.aa,.aa,.aa,.aa,.aa,.aa,.aa,.aa,.aa,.aa,.aa,.aa,.aa,.aa,.aa,.aa,.aa,.aa,.aa,.aa,.aa,.aa,.aa,.aa,.aa,.aa,.aa,.aa,.aa,.aa]
abbrev PV.ii (n:Int):PV:=.int .i64 n
inductive BK where
 | var | arr | lit | mul
structure aO where
 k:BK
 sz:Nat
 rows:List (List PV)
structure St where
 sl:List PV
 bl:List (Nat × aO)
 hd:List (Nat × Value):=[]
def hY :List (Nat × Value)->Nat->Option Value
 | [],_=>none
 | (e,v)::l,d=>bif nq e d then some v else hY l d
def iS :List (Nat × Value)->Nat->List (Nat × Value)
 | [],_=>[]
 | (e,v)::l,d=>bif nq e d then iS l d else (e,v)::iS l d
inductive TK where
 | int (k:IntKind)
 | bool
 | str
 | slice (e:TypeId)
 | struct (fs:List (Nat × Nat)) (flat:Bool) (one:List Bool)
 | other
structure TI where
 kind:TK
 size:Nat
 bytes:Nat
 zero:List PV
def TI.isAgg (i:TI):Bool:=match i.kind with | .struct _ _ _=>true | _=>false
abbrev dA :=TypeId->Option TI
def bT {α:Type}:List α->Nat->α->List α
 | [],_,_=>[]
 | _::l,0,x=>x::l
 | y::l,n+1,x=>y::bT l n x
def bM :List PV->Nat->PV
 | [],_=>.aa
 | x::_,0=>x
 | _::l,n+1=>bM l n
def av :List (Nat × aO)->Nat->Option aO
 | [],_=>none
 | (e,b)::l,d=>bif nq e d then some b else av l d
def cg :List (Nat × aO)->Nat->aO->List (Nat × aO)
 | [],d,b=>[(d,b)]
 | (e,c)::l,d,b=>bif nq e d then (e,b)::l else (e,c)::cg l d b
def iC :List (Nat × aO)->Nat->List (Nat × aO)
 | [],_=>[]
 | (e,c)::l,d=>bif nq e d then iC l d else (e,c)::iC l d
def NR :Value->PV
 | .int k n=>.int k n
 | .bool b=>.bool b
 | .string s=>.str s
 | .slice none 0 0=>.zc
 | _=>.aa
def St.get (σ:St):Operand->PV
 | .tmp t=>bM σ.sl t
 | .const v=>NR v
 | .func f=>.fn f []
 | .global _=>.aa
def St.put (σ:St)(d:Option Tmp)(v:PV):St:=
 match d with
 | none=>σ
 | some d=>{σ with sl:=bT σ.sl d v}
mutual
def erase :PV->PV
 | .ow sz rows=>.sl sz (ar rows)
 | .raw _=>.aa
 | v=>v
def dh :List PV->List PV
 | []=>[]
 | c::l=>erase c::dh l
def ar :List (List PV)->List (List PV)
 | []=>[]
 | r::l=>dh r::ar l
end
def bG :PV->Bool
 | .int _ _ | .bool _ | .str _ | .zc | .sl _ _=>true
 | _=>false
def Eb (bl:List (Nat × aO)):PV->PV
 | .own d=>match av bl d with | some ⟨.arr,sz,rows⟩=>.sl sz (ar rows) | _=>.aa
 | .ow sz rows=>.sl sz (ar rows)
 | v=>bif bG v then v else .aa
def nF (bl:List (Nat × aO)):List PV->List PV
 | []=>[]
 | c::l=>Eb bl c::nF bl l
mutual
def view (bl:List (Nat × aO)):PV->PV
  | .own d=>match av bl d with
    | some ⟨.arr,sz,rows⟩=>.sl sz (ar rows)
    | some ⟨.lit,sz,[r]⟩=>.sl sz [nF bl r]
    | _=>.aa
  | .pt d i j=>match av bl d with
    | some ⟨_,_,rows⟩=>match rows[i]? with | some r=>.rd (nF bl (r.drop j)) | none=>.aa
    | none=>.aa
  | .agg cs=>.agg (fD bl cs)
  | .aw vs=>.aw (fD bl vs)
  | .fn f caps=>.fn f (fD bl caps)
  | v=>v
def fD (bl:List (Nat × aO)):List PV->List PV
 | []=>[]
 | c::l=>view bl c::fD bl l
end
mutual
def kill (d:Nat):PV->PV
 | .own e=>bif nq e d then .aa else .own e
 | .pt e i j=>bif nq e d then .aa else .pt e i j
 | .agg cs=>.agg (fp d cs)
 | .aw vs=>.aw (fp d vs)
 | .fn f caps=>.fn f (fp d caps)
 | v=>v
def fp (d:Nat):List PV->List PV
 | []=>[]
 | c::l=>kill d c::fp d l
end
def fX (d:Nat):List (Nat × aO)->List (Nat × aO)
 | []=>[]
 | (e,⟨.arr,sz,rows⟩)::l=>(e,⟨.arr,sz,rows⟩)::fX d l
 | (e,⟨k,sz,[r]⟩)::l=>(e,⟨k,sz,[fp d r]⟩)::fX d l
 | (e,⟨k,sz,_⟩)::l=>(e,⟨k,sz,[]⟩)::fX d l
def St.drop (σ:St)(d:Nat):St:={sl:=fp d σ.sl,bl:=fX d (iC σ.bl d),hd:=iS σ.hd d}
def dD (σ:St):PV->Option (PV × St)
  | .own d=>match av σ.bl d with
    | some ⟨.arr,sz,rows⟩=>some (.ow sz rows,σ.drop d)
    | _=>none
  | .ow sz rows=>some (.ow sz rows,σ)
  | v=>bif bG v then some (v,σ) else none
def ek (σ:St):List PV->Option (List PV × St)
  | []=>some ([],σ)
  | c::l=>match dD σ c with
    | some (c',aA)=>match ek aA l with
      | some (l',aaa)=>some (c'::l',aaa)
      | none=>none
    | none=>none
def fY :PV->Bool
 | .int _ _ | .bool _ | .str _ | .zc | .sl _ _ | .own _ | .pt _ _ _=>true
 | _=>false
def eK (p:PV->Bool):List PV->Bool
 | []=>true
 | c::l=>p c && eK p l
def BN :Nat->List PV->Option (List PV)
 | 0,_=>some []
 | _+1,[]=>none
 | n+1,c::l=>match BN n l with | some r=>some (c::r) | none=>none
def xa (i:TI)(cs:List PV):Option PV:=
  match i.isAgg with
  | true=>match BN i.size cs with
    | some r=>bif eK fY r then some (.agg r) else none
    | none=>none
  | false=>match cs with
    | c::_=>bif fY c then some c else none
    | []=>none
def cellsOf :PV->List PV
 | .agg cs=>cs
 | v=>[v]
def gR :List PV->Nat->List PV->List PV
 | l,_,[]=>l
 | l,j,c::cs=>gR (bT l j c) (j+1) cs
def JF (op:BinOp)(k:IntKind)(a b:Int):Option Int:=
 match op with
 | .and=>some (k.wrap (BitVec.ofInt k.bits a &&& BitVec.ofInt k.bits b).toNat)
 | .or=>some (k.wrap (BitVec.ofInt k.bits a ||| BitVec.ofInt k.bits b).toNat)
 | .xor=>some (k.wrap (BitVec.ofInt k.bits a ^^^ BitVec.ofInt k.bits b).toNat)
 | .andNot=>some (k.wrap (BitVec.ofInt k.bits a &&& ~~~BitVec.ofInt k.bits b).toNat)
 | _=>none
def JG (op:BinOp)(k:IntKind)(a b:Int):Option PV:=
  match op with
  | .add=>some (.int k (k.wrap (a+b)))
  | .sub=>some (.int k (k.wrap (a - b)))
  | .mul=>some (.int k (k.wrap (a * b)))
  | .quo=>bif decide (b=0) then none else some (.int k (k.wrap (a.tdiv b)))
  | .rem=>bif decide (b=0) then none else some (.int k (a.tmod b))
  | .eql=>some (.bool (a == b))
  | .neq=>some (.bool (a != b))
  | .lss=>some (.bool (decide (a < b)))
  | .leq=>some (.bool (decide (a<=b)))
  | .gtr=>some (.bool (decide (a > b)))
  | .geq=>some (.bool (decide (a ≥ b)))
  | .shl | .shr=>none
  | op=>match JF op k a b with
    | some n=>some (.int k n)
    | none=>none
def JH (op:BinOp)(a b:ByteArray):Option PV:=
 match op with
 | .add=>bif decide (a.size+b.size<=140737488355328) then some (.str (a++b)) else none
 | .eql=>some (.bool (a.toList == b.toList))
 | .neq=>some (.bool !(a.toList == b.toList))
 | .lss=>some (.bool (Op.bytesLess a.toList b.toList))
 | _=>none
def BO (k k':IntKind):Bool:=decide (k=k')
def binop (op:BinOp)(x y:PV):Option PV:=
 match x,y with
 | .int k a,.int k' b=>bif BO k k' then JG op k a b else none
 | .str a,.str b=>JH op a b
 | _,_=>none
def nR :PV->PV->Bool
 | .int k _,.int k' _=>BO k k'
 | .bool _,.bool _=>true
 | .str _,.str _=>true
 | _,_=>false
def fP :List PV->List PV->Bool
 | [],[]=>true
 | c::l,d::m=>nR c d && fP l m
 | _,_=>false
def kQ :PV->PV->Bool
 | .int _ a,.int _ b=>a == b
 | .bool a,.bool b=>a == b
 | .str a,.str b=>a.toList == b.toList
 | _,_=>false
def dH :List PV->List PV->Bool
 | [],[]=>true
 | c::l,d::m=>kQ c d && dH l m
 | _,_=>false
def pd (T:dA)(op:BinOp)(t:TypeId)(x y:PV):Option PV:=
  match x,y with
  | .bool a,.bool b=>match T t with
    | some ⟨.bool,_,_,_⟩=>match op with
      | .eql=>some (.bool (a == b))
      | .neq=>some (.bool !(a == b))
      | _=>none
    | _=>none
  | .agg l,.agg l'=>match T t with
    | some ⟨.struct _ true _,_,_,z⟩=>match fP z l && fP z l' with
      | true=>match op with
        | .eql=>some (.bool (dH l l'))
        | .neq=>some (.bool !(dH l l'))
        | _=>none
      | false=>none
    | _=>none
  | x,y=>binop op x y
def Ec (T:dA)(σ:St)(dst:Option Tmp)(t:TypeId)(x:PV):Option St:=
  match dst,T t with
  | some d,some i=>match av σ.bl d with
    | none=>match nq (cellsOf x).length i.size && eK fY (cellsOf x) with
      | true=>some {σ with sl:=bT σ.sl d (.pt d 0 0),bl:=(d,⟨.var,i.size,[cellsOf x]⟩)::σ.bl}
      | false=>none
    | some _=>none
  | _,_=>none
def xb (T:dA)(σ:St)(dst:Option Tmp)(t:TypeId):Option St:=
  match dst,T t with
  | some d,some i=>match av σ.bl d,eK bG i.zero with
    | none,true=>some {σ with sl:=bT σ.sl d (.pt d 0 0),bl:=(d,⟨.var,i.size,[i.zero]⟩)::σ.bl}
    | _,_=>none
  | _,_=>none
def ua (T:dA)(σ:St)(dst:Option Tmp)(t:TypeId)(x:PV):Option St:=
  match T t with
  | some i=>match x with
    | .pt d a j=>match av σ.bl d with
      | some b=>match b.rows[a]? with
        | some r=>match xa i (r.drop j) with
          | some v=>some (σ.put dst v)
          | none=>none
        | none=>none
      | none=>none
    | .rd cs=>match xa i cs with
      | some v=>some (σ.put dst v)
      | none=>none
    | _=>none
  | none=>none
def nt (T:dA)(σ:St)(dst:Option Tmp)(s:TypeId)(x:PV)(f:Nat):Option St:=
  match T s with
  | some ⟨.struct fs _ _,_,_,_⟩=>match fs[f]? with
    | some (off,sz)=>bif nq sz 0 then none else match x with
      | .pt d a j=>some (σ.put dst (.pt d a (j+off)))
      | .rd cs=>some (σ.put dst (.rd (cs.drop off)))
      | _=>none
    | none=>none
  | _=>none
def jB (T:dA)(σ:St)(dst:Option Tmp)(t:TypeId)(x ix:PV):Option St:=
  match T t with
  | some ⟨.slice e,_,_,_⟩=>match T e,ix with
    | some ie,.int _ n=>match x with
      | .own d=>match av σ.bl d with
        | some ⟨.mul,sz,rows⟩=>match rows with
          | [r]=>match decide (0<=n) && decide (n < r.length) && nq sz ie.size with
            | true=>some (σ.put dst (.pt d 0 n.toNat))
            | false=>none
          | _=>none
        | some b=>match decide (0<=n) && decide (n < b.rows.length) && nq b.sz ie.size with
          | true=>some (σ.put dst (.pt d n.toNat 0))
          | false=>none
        | none=>none
      | .sl sz rows=>match decide (0<=n) && nq sz ie.size with
        | true=>match rows[n.toNat]? with
          | some r=>some (σ.put dst (.rd r))
          | none=>none
        | false=>none
      | _=>none
    | _,_=>none
  | _=>none
def pS (T:dA)(σ:St)(t:TypeId)(x v:PV):Option St:=
  match T t with
  | some i=>match x with
    | .pt d a j=>match nq (cellsOf v).length i.size with
      | true=>match av σ.bl d with
        | some ⟨.var,sz,[r]⟩=>match eK fY (cellsOf v) && nq a 0 && zT (j+i.size) r.length with
          | true=>some {σ with bl:=cg σ.bl d ⟨.var,sz,[gR r j (cellsOf v)]⟩}
          | false=>none
        | some ⟨.arr,_,_⟩=>match ek σ (cellsOf v) with
          | some (cs,aA)=>match av aA.bl d with
            | some ⟨.arr,sz,rows⟩=>match rows[a]? with
              | some r=>match zT (j+i.size) r.length with
                | true=>some {aA with bl:=cg aA.bl d ⟨.arr,sz,rows.set a (gR r j cs)⟩}
                | false=>none
              | none=>none
            | _=>none
          | none=>none
        | _=>none
      | false=>none
    | _=>none
  | none=>none
def jH (T:dA)(σ:St)(dst:Option Tmp)(t:TypeId)(len:Nat)(ps:List (Nat × Operand)):Option St:=
  match dst,T t with
  | some d,some ⟨.slice e,_,_,_⟩=>match T e,len,ps with
    | some ie,0,[]=>match av σ.bl d with
      | none=>some {σ with sl:=bT σ.sl d (.own d),bl:=(d,⟨.arr,ie.size,[]⟩)::σ.bl}
      | some _=>none
    | some ie,1,[(0,x)]=>match nq (cellsOf (σ.get x)).length ie.size && decide (0 < ie.size) && decide (ie.size<=1000) && eK fY (cellsOf (σ.get x)) with
      | true=>match av σ.bl d with
        | none=>some {σ with sl:=bT σ.sl d (.own d),bl:=(d,⟨.lit,ie.size,[cellsOf (σ.get x)]⟩)::σ.bl}
        | some _=>none
      | false=>none
    | _,_,_=>none
  | _,_=>none
def sa (fs:List (Nat × Nat))(σ:St):List PV->List (Nat × Operand)->Option (List PV)
  | l,[]=>some l
  | l,(i,x)::rest=>match fs[i]? with
    | some (off,sz)=>match nq (cellsOf (σ.get x)).length sz && zT (off+sz) l.length && eK fY (cellsOf (σ.get x)) with
      | true=>sa fs σ (gR l off (cellsOf (σ.get x))) rest
      | false=>none
    | none=>none
def xc (T:dA)(σ:St)(dst:Option Tmp)(t:TypeId)(ps:List (Nat × Operand)):Option St:=
  match T t with
  | some ⟨.struct fs _ _,_,_,z⟩=>match sa fs σ z ps with
    | some l=>some (σ.put dst (.agg l))
    | none=>none
  | _=>none
def nu (T:dA)(σ:St)(dst:Option Tmp)(t:TypeId)(l c:PV):Option St:=
  match dst,T t with
  | some d,some ⟨.slice e,_,_,_⟩=>match T e,l,c with
    | some ie,.int .i64 n,.int .i64 m=>match decide (n=m) && decide (0<=n) && decide (n * ie.bytes<=140737488355328) && decide (0 < ie.bytes) && decide (0 < ie.size) with
      | true=>match av σ.bl d with
        | none=>some {σ with sl:=bT σ.sl d (.own d),bl:=(d,⟨.arr,ie.size,aa0 n.toNat ie.zero⟩)::σ.bl}
        | some _=>none
      | false=>none
    | _,_,_=>none
  | _,_=>none
def qm (T:dA)(σ:St)(dst:Option Tmp)(t:TypeId)(x:PV):Option St:=
  match T t with
  | some ⟨.slice _,_,_,_⟩=>match x with
    | .own d=>match av σ.bl d with
      | some ⟨.arr,_,rows⟩=>some (σ.put dst (.int .i64 rows.length))
      | some ⟨.lit,_,_⟩=>some (σ.put dst (.int .i64 1))
      | some ⟨.mul,_,[r]⟩=>some (σ.put dst (.int .i64 r.length))
      | _=>none
    | .sl _ rows=>some (σ.put dst (.int .i64 rows.length))
    | .zc=>some (σ.put dst (.int .i64 0))
    | _=>none
  | some ⟨.str,_,_,_⟩=>match x with
    | .str s=>some (σ.put dst (.int .i64 s.size))
    | _=>none
  | _=>none
def mX (σ:St)(sz:Nat)(y:PV):Option (List (List PV) × St):=
  match y with
  | .own d=>match av σ.bl d with
    | some ⟨.arr,oS,rows⟩=>bif nq oS sz then some (rows,σ.drop d) else none
    | some ⟨.lit,oS,[r]⟩=>bif nq oS sz then (match ek (σ.drop d) r with | some (r',aA)=>some ([r'],aA) | none=>none) else none
    | _=>none
  | .sl oS rows=>bif nq oS sz then some (rows,σ) else none
  | .zc=>some ([],σ)
  | _=>none
def pF (T:dA)(σ:St)(dst:Option Tmp)(t:TypeId)(x y:Operand):Option St:=
  match dst,T t with
  | some dd,some ⟨.slice e,_,_,_⟩=>match T e with
    | some ie=>match mX σ ie.size (σ.get y) with
      | some (news,aA)=>match aA.get x with
        | .own d=>match av aA.bl d with
          | some ⟨.arr,sz,rows⟩=>match nq sz ie.size && decide ((rows.length+news.length) * ie.bytes<=140737488355328) && decide (0 < ie.bytes) && decide (0 < ie.size) with
            | true=>some {sl:=bT (fp d aA.sl) dd (.own d),bl:=cg (fX d aA.bl) d ⟨.arr,sz,rows++news⟩,hd:=iS aA.hd d}
            | false=>none
          | _=>none
        | .zc=>match decide (news.length * ie.bytes<=140737488355328) && decide (0 < ie.bytes) && decide (0 < ie.size) with
          | true=>match av aA.bl dd with
            | none=>some {aA with sl:=bT aA.sl dd (.own dd),bl:=(dd,⟨.arr,ie.size,news⟩)::aA.bl}
            | some _=>none
          | false=>none
        | _=>none
      | none=>none
    | none=>none
  | _,_=>none
def jr (σ:St)(n:Int):Option Operand->Option Int
  | none=>some n
  | some x=>match σ.get x with
    | .int _ m=>some m
    | _=>none
def pT (T:dA)(σ:St)(dst:Option Tmp)(t:TypeId)(x:PV)(lo hi mx:Option Operand):Option St:=
  match T t,mx with
  | some ⟨.slice e,_,_,_⟩,none=>match T e,x with
    | some ie,.sl sz rows=>match jr σ 0 lo,jr σ rows.length hi with
      | some l,some h=>match decide (0<=l) && decide (l<=h) && decide (h<=rows.length) && nq sz ie.size with
        | true=>some (σ.put dst (.sl sz ((rows.drop l.toNat).take (h.toNat - l.toNat))))
        | false=>none
      | _,_=>none
    | some ie,.own d=>match av σ.bl d,lo,hi with
      | some ⟨.arr,sz,rows⟩,some z,none=>match σ.get z with
        | .int _ n=>match decide (0<=n) && decide (n<=rows.length) && nq sz ie.size with
          | true=>some (σ.put dst .aa)
          | false=>none
        | _=>none
      | _,_,_=>none
    | _,_=>none
  | _,_=>none
def Pw :List PV->Int
 | [.int _ n]=>n
 | _=>0
def qo :List (List PV)->List Int
 | []=>[]
 | r::l=>Pw r::qo l
def sb :List (List PV)->Bool
 | []=>true
 | [.int .u8 _]::l=>sb l
 | _=>false
def rowsOf (bl:List (Nat × aO)):PV->Option (List (List PV))
  | .sl _ rows=>some rows
  | .own d=>match av bl d with
    | some ⟨.arr,_,rows⟩=>some rows
    | some ⟨.lit,_,[r]⟩=>some [r]
    | _=>none
  | .zc=>some []
  | _=>none
def NS (T:dA)(e:TypeId):Bool:=match T e with | some ⟨.int .u8,1,_,_⟩=>true | _=>false
def uc (T:dA)(σ:St)(dst:Option Tmp)(t t':TypeId)(x:PV):Option St:=
  match T t,T t' with
  | some ⟨ts,_,_,_⟩,some ⟨.int k,_,_,_⟩=>match ts,x with
    | .int _,.int _ n=>some (σ.put dst (.int k (k.wrap n)))
    | _,_=>none
  | some ⟨.slice e,_,_,_⟩,some ⟨.str,_,_,_⟩=>match NS T e,rowsOf σ.bl x with
    | true,some rows=>bif sb rows then some (σ.put dst (.str (strOfNums (qo rows)))) else none
    | _,_=>none
  | _,_=>none
def Dd (T:dA)(σ:St)(dst:Option Tmp)(t:TypeId)(x:PV)(lo:Option Operand)(hi mx:PV):Option St:=
  match T t,lo,x,dst with
  | some ⟨.slice e,_,_,_⟩,none,.own d,some dd=>match T e,av σ.bl d,hi,mx with
    | some ie,some ⟨.arr,sz,rows⟩,.int _ n,.int _ n'=>match decide (n=rows.length) && decide (n'=rows.length) && nq sz ie.size with
      | true=>some {sl:=bT (fp d σ.sl) dd (.own d),bl:=cg (fX d σ.bl) d ⟨.arr,sz,rows⟩,hd:=iS σ.hd d}
      | false=>none
    | _,_,_,_=>none
  | _,_,_,_=>none
def bc (s:ByteArray)(i:Int):Int:=match s[i.toNat]? with
 | some b=>b.toNat
 | none=>0
def tO (T:dA)(σ:St)(dst:Option Tmp)(t:TypeId)(x ix:PV):Option St:=
  match T t,x,ix with
  | some ⟨.str,_,_,_⟩,.str s,.int _ i=>match decide (0<=i) && decide (i < s.size) with
    | true=>some (σ.put dst (.int .u8 (bc s i)))
    | false=>none
  | _,_,_=>none
def step (T:dA)(σ:St)(o:Oper):Option St:=
  match o.op with
  | .move x | .assign x=>some (σ.put o.dst (σ.get x))
  | .pick c a b=>match σ.get c with
    | .bool t=>some (σ.put o.dst (bif t then σ.get a else σ.get b))
    | _=>none
  | .binOp op t x y _=>match pd T op t (σ.get x) (σ.get y) with
    | some v=>some (σ.put o.dst v)
    | none=>none
  | .unOp .not _ x=>match σ.get x with
    | .bool t=>some (σ.put o.dst (.bool !t))
    | _=>none
  | .box t x=>Ec T σ o.dst t (σ.get x)
  | .alloc t=>xb T σ o.dst t
  | .load t x=>ua T σ o.dst t (σ.get x)
  | .fieldAddr s x f=>nt T σ o.dst s (σ.get x) f
  | .indexAddr t x ix=>jB T σ o.dst t (σ.get x) (σ.get ix)
  | .store t x v=>match o.dst with
    | none=>pS T σ t (σ.get x) (σ.get v)
    | some _=>none
  | .buildSlice t len ps=>jH T σ o.dst t len ps.toList
  | .slice t x lo hi none=>pT T σ o.dst t (σ.get x) lo hi none
  | .slice t x lo (some hi) (some mx)=>Dd T σ o.dst t (σ.get x) lo (σ.get hi) (σ.get mx)
  | .build t ps=>xc T σ o.dst t ps.toList
  | .makeSlice t l c=>nu T σ o.dst t (σ.get l) (σ.get c)
  | .convert t t' x=>uc T σ o.dst t t' (σ.get x)
  | .index t x ix=>tO T σ o.dst t (σ.get x) (σ.get ix)
  | .extract x n=>match σ.get x with
    | .aw vs=>bif rZ n vs.length then some (σ.put o.dst (bM vs n)) else none
    | _=>none
  | .nilCheck x=>match σ.get x with
    | .pt d a j=>some (σ.put o.dst (.pt d a j))
    | .rd cs=>some (σ.put o.dst (.rd cs))
    | _=>none
  | .makeFunc (.func f) first caps=>match first.toList with
    | []=>some (σ.put o.dst (.fn f (caps.toList.map σ.get)))
    | _=>none
  | .call c=>match c.callee,c.args.toList,c.argTypes.toList with
    | .builtin .len,[x],[t]=>qm T σ o.dst t (σ.get x)
    | .builtin .append,[x,y],[t,t']=>bif nq t t' then pF T σ o.dst t x y else none
    | _,_,_=>none
  | _=>none
def jU (own:Bool)(id:Nat):PV->PV × Option aO
 | .ow sz rows=>bif own then (.own id,some ⟨.arr,sz,rows⟩) else (.sl sz (ar rows),none)
 | .raw _=>(.aa,none)
 | v=>(v,none)
def bJ (own:Bool)(id:Nat):List PV->List PV × List (Nat × aO)
 | []=>([],[])
 | c::l=>
  let r:=jU own id c
  let s:=bJ own (id+1000) l
  (r.1::s.1,match r.2 with | some b=>(id,b)::s.2 | none=>s.2)
def jC (own:Bool)(id:Nat):PV->PV × List (Nat × aO)
 | .agg cs=>let r:=bJ own id cs;(.agg r.1,r.2)
 | v=>let r:=jU own id v;(r.1,match r.2 with | some b=>[(id,b)] | none=>[])
def cJ (own:Bool)(id:Nat):List PV->List PV × List (Nat × aO)
 | []=>([],[])
 | c::l=>
  let r:=jC own id c
  let s:=cJ own (id+100000) l
  (r.1::s.1,r.2++s.2)
def gH (own:Bool)(id:Nat):PV->PV × List (Nat × aO)
 | .aw vs=>let r:=cJ own id vs;(.aw r.1,r.2)
 | v=>jC own id v
mutual
def fresh :PV->Prop
 | .sl _ _=>False
 | .ow _ rows=>ko rows
 | .agg cs=>cj cs
 | .aw vs=>cj vs
 | .own _ | .pt _ _ _ | .rd _ | .fn _ _=>False
 | _=>True
def cj :List PV->Prop
 | []=>True
 | c::l=>fresh c/\cj l
def ko :List (List PV)->Prop
 | []=>True
 | r::l=>cj r/\ko l
end
mutual
def zV :PV->Bool
 | .own _ | .pt _ _ _=>false
 | .agg cs=>iT cs
 | .aw vs=>iT vs
 | .fn _ caps=>iT caps
 | _=>true
def iT :List PV->Bool
 | []=>true
 | c::l=>zV c && iT l
end
def cV (bl:List (Nat × aO)):List (Nat × aO)->Bool
 | []=>true
 | (d,_)::l=>(match av bl d with | none=>true | some _=>false) && (match av l d with | none=>true | some _=>false) && cV bl l
structure Spec where
 r:FuncId->List PV->PV->Prop
 m:FuncId->List PV->List PV->PV->Prop
 c:FuncId->List PV->PV->Prop
 v:FuncId->List PV->List PV->List PV->PV->Prop
instance :CoeFun Spec (λ_=>FuncId->List PV->PV->Prop):=⟨Spec.r⟩
def qp (d:Nat):List Nat->Bool
 | []=>false
 | e::l=>nq e d || qp d l
def zW :List Nat->Bool
 | []=>true
 | d::l=> !qp d l && zW l
def pz (bl:List (Nat × aO)):PV->Option PV
 | .own d=>match av bl d with | some ⟨.arr,sz,rows⟩=>some (.ow sz rows) | _=>none
 | v=>bif bG v then some v else none
def Ed (bl:List (Nat × aO)):List PV->Option (List PV)
  | []=>some []
  | c::l=>match pz bl c,Ed bl l with
    | some c',some l'=>some (c'::l')
    | _,_=>none
def JI (bl:List (Nat × aO)):PV->Option PV
 | .agg cs=>match Ed bl cs with | some cx=>some (.agg cx) | none=>none
 | v=>pz bl v
def vi (bl:List (Nat × aO)):List PV->Option (List PV)
  | []=>some []
  | c::l=>match JI bl c,vi bl l with
    | some c',some l'=>some (c'::l')
    | _,_=>none
def lZ :PV->List Nat
 | .own d=>[d]
 | _=>[]
def tm :List PV->List Nat
 | []=>[]
 | c::l=>lZ c++tm l
def tn :PV->List Nat
 | .agg cs=>tm cs
 | v=>lZ v
def pA :List PV->List Nat
 | []=>[]
 | c::l=>tn c++pA l
def tp (bl:List (Nat × aO)):PV->PV->Option (List (Nat × aO))
  | .own d,.ow sz rows=>match av bl d with
    | some ⟨.arr,oS,_⟩=>bif nq oS sz then some (cg bl d ⟨.arr,sz,rows⟩) else none
    | _=>none
  | .own _,_=>none
  | _,_=>some bl
def ye (bl:List (Nat × aO)):List PV->List PV->Option (List (Nat × aO))
  | [],[]=>some bl
  | c::l,c'::l'=>match tp bl c c' with
    | some cy=>ye cy l l'
    | none=>none
  | _,_=>none
def JJ (bl:List (Nat × aO)):PV->PV->Option (List (Nat × aO))
 | .agg cs,.agg cx=>ye bl cs cx
 | .agg _,_=>none
 | c,c'=>tp bl c c'
def vj (bl:List (Nat × aO)):List PV->List PV->Option (List (Nat × aO))
  | [],[]=>some bl
  | c::l,c'::l'=>match JJ bl c c' with
    | some cy=>vj cy l l'
    | none=>none
  | _,_=>none
def JW :PV->Bool
 | .aw vs=>eK bG vs
 | .agg cs=>eK bG cs
 | v=>bG v
def bZ (σ:St)(o:Oper):Option (FuncId × List PV):=
  match o.op with
  | .call c=>match c.callee with
    | .value f=>match σ.get f with
      | .fn g caps=>some (g,c.args.toList.map σ.get++caps)
      | _=>none
    | _=>none
  | _=>none
def St.bind (σ:St)(d:Nat)(r:PV):St:={σ with sl:=bT σ.sl d (gH true d r).1,bl:=(gH true d r).2++σ.bl}
def pe :PV->PV
 | .agg cs=>.agg (dh cs)
 | c=>erase c
def Ee :List PV->List PV
 | []=>[]
 | c::l=>pe c::Ee l
def froze :PV->PV
 | .aw vs=>.aw (Ee vs)
 | c=>pe c
def nS (T:dA)(X:Spec)(o:Oper)(K:St->Prop)(σ:St):Prop:=
  match bZ σ o,o.dst with
  | some (g,args),some d=>∃ r,X g (fD σ.bl args) r/\(fresh r\/iT args=true)/\((cV σ.bl (gH true d r).2=true/\K (σ.bind d r))\/K (σ.put (some d) (froze r)))
  | _,_=>match step T σ o with
    | some aA=>K aA
    | none=>False
def RK (X:Spec)(o:Oper)(K:St->Prop)(σ:St):Prop:=
 ∃ g args eR tq r cy,bZ σ o=some (g,args)/\vi σ.bl args=some eR/\zW (pA args)=true/\X.m g eR tq r/\JW r=true/\vj σ.bl args tq=some cy/\
  K (St.put {σ with bl:=cy} o.dst r)
def RL (T:dA)(o:Oper)(K:St->Prop)(σ:St):Prop:=
 ∃ t x i dd d a j sz rows r s nrows,o.op=.load t x/\o.dst=some dd/\T t=some i/\i.isAgg=false/\σ.get x=.pt d a j/\av σ.bl d=some ⟨.arr,sz,rows⟩/\rows[a]? =some r/\r[j]? =some (.ow s nrows)/\
  av σ.bl dd=none/\∀ v,K {σ with sl:=bT σ.sl dd (.own dd),bl:=(dd,⟨.arr,s,nrows⟩)::cg σ.bl d ⟨.arr,sz,rows.set a (bT r j (.raw v))⟩,hd:=(dd,v)::σ.hd}
def RM (T:dA)(o:Oper)(K:St->Prop)(σ:St):Prop:=
 ∃ op t x y t' e a b c rows,o.op=.binOp op t x y t'/\T t=some ⟨.slice e,a,b,c⟩/\σ.get y=.zc/\rowsOf σ.bl (σ.get x)=some rows/\((op=.eql/\∀ b:Bool,(b=true->rows=[])->K (σ.put o.dst (.bool b)))\/(op=.neq/\∀ b:Bool,(b=false->rows=[])->K (σ.put o.dst (.bool b))))
def RN (X:Spec)(o:Oper)(K:St->Prop)(σ:St):Prop:=
 ∃ g args eR r d d0,bZ σ o=some (g,args)/\o.dst=some d/\vi σ.bl args=some eR/\pA args=[d0]/\X.c g eR r/\cV (σ.drop d0).bl (gH true d r).2=true/\K ((σ.drop d0).bind d r)
def zX (σ:St):PV->Option (PV × St)
  | .agg cs=>match ek σ cs with
    | some (cx,aA)=>some (.agg cx,aA)
    | none=>none
  | .own d=>match av σ.bl d with
    | some ⟨.lit,sz,[r]⟩=>match ek (σ.drop d) r with
      | some (r',aA)=>some (.ow sz [r'],aA)
      | none=>none
    | _=>dD σ (.own d)
  | v=>dD σ v
inductive Tw where
 | back (D d i j:Nat)
 | freeze (d:Nat)
 | slot (k d sz:Nat)
 | cell (b j d sz:Nat)
 | up (d:Nat)
 | arr (d:Nat)
 | Px (k:Nat)
 | Ef (k j d sz:Nat)
 | zY (d sz:Nat)
 | lr (d e:Nat)
 | drop (d:Nat)
 | aa (k:Nat)
 | perm (bl:List (Nat × aO))
 | Mt (d:Nat)
def sC (d e x:Nat):Nat:=bif nq x d then e else x
mutual
def RO (d e:Nat):PV->PV
 | .own x=>.own (sC d e x)
 | .pt x i j=>.pt (sC d e x) i j
 | .agg cs=>.agg (sD d e cs)
 | .aw vs=>.aw (sD d e vs)
 | .fn f caps=>.fn f (sD d e caps)
 | c=>c
def sD (d e:Nat):List PV->List PV
 | []=>[]
 | c::l=>RO d e c::sD d e l
end
def sE (d e:Nat):List (Nat × aO)->List (Nat × aO)
 | []=>[]
 | (x,⟨.arr,sz,rows⟩)::l=>(sC d e x,⟨.arr,sz,rows⟩)::sE d e l
 | (x,⟨k,sz,[r]⟩)::l=>(sC d e x,⟨k,sz,[sD d e r]⟩)::sE d e l
 | (x,⟨k,sz,_⟩)::l=>(sC d e x,⟨k,sz,[]⟩)::sE d e l
def fixC (sz:Nat):PV->PV
 | .zc=>.ow sz []
 | c=>c
def pc (sz:Nat)(rows:List (List PV)):List (List PV):=rows.map λr=>r.map (fixC sz)
mutual
def kg (d:Nat)(v:PV):PV->PV
 | .own e=>bif nq e d then v else .own e
 | .pt e i j=>bif nq e d then .aa else .pt e i j
 | .agg cs=>.agg (kD d v cs)
 | .aw vs=>.aw (kD d v vs)
 | .fn f caps=>.fn f (kD d v caps)
 | c=>c
def kD (d:Nat)(v:PV):List PV->List PV
 | []=>[]
 | c::l=>kg d v c::kD d v l
end
def oG (d:Nat)(v:PV):List (Nat × aO)->List (Nat × aO)
 | []=>[]
 | (e,⟨.arr,sz,rows⟩)::l=>(e,⟨.arr,sz,rows⟩)::oG d v l
 | (e,⟨k,sz,[r]⟩)::l=>(e,⟨k,sz,[kD d v r]⟩)::oG d v l
 | (e,⟨k,sz,_⟩)::l=>(e,⟨k,sz,[]⟩)::oG d v l
open Classical in
noncomputable def iH (σ:St):Tw->Option St
  | .back D d i j=>match av σ.bl D,hY σ.hd D,av (σ.drop D).bl d with
    | some ⟨.arr,s,nrows⟩,some v,some ⟨.arr,sz,rows⟩=>match rows[i]? with
      | some r=>if r[j]? =some (.raw v)/\D≠d then some {σ.drop D with bl:=cg (σ.drop D).bl d ⟨.arr,sz,rows.set i (bT r j (.ow s nrows))⟩} else none
      | none=>none
    | _,_,_=>none
  | .freeze d=>match av σ.bl d with
    | some ⟨.arr,sz,rows⟩=>some {sl:=kD d (.sl sz (ar rows)) σ.sl,bl:=oG d (.sl sz (ar rows)) (iC σ.bl d),hd:=iS σ.hd d}
    | _=>none
  | .slot k d sz=>match bM σ.sl k,av σ.bl d with
    | .zc,none=>some {σ with sl:=bT σ.sl k (.own d),bl:=(d,⟨.arr,sz,[]⟩)::σ.bl}
    | _,_=>none
  | .cell b j d sz=>match av σ.bl b,av σ.bl d with
    | some ⟨.var,n,[r]⟩,none=>match bM r j with
      | .zc=>some {σ with bl:=(d,⟨.arr,sz,[]⟩)::cg σ.bl b ⟨.var,n,[bT r j (.own d)]⟩}
      | _=>none
    | _,_=>none
  | .up d=>match av σ.bl d with
    | some b=>some {σ with bl:=(d,b)::iC σ.bl d}
    | none=>none
  | .arr d=>match av σ.bl d with
    | some ⟨.lit,sz,[r]⟩=>match eK bG r with
      | true=>some {σ with bl:=cg σ.bl d ⟨.arr,sz,[r]⟩}
      | false=>none
    | _=>none
  | .Px k=>match zX σ (bM σ.sl k) with
    | some (r,aA)=>some {aA with sl:=bT aA.sl k (pe r)}
    | none=>none
  | .drop d=>some (σ.drop d)
  | .aa k=>some {σ with sl:=bT σ.sl k .aa}
  | .perm bl=>if ∀ k,av bl k=av σ.bl k then some {σ with bl:=bl} else none
  | .lr d e=>match av σ.bl d,av σ.bl e,hY σ.hd d with
    | some _,none,none=>some {σ with sl:=sD d e σ.sl,bl:=sE d e σ.bl}
    | _,_,_=>none
  | .zY d sz=>match av σ.bl d with
    | some ⟨.arr,s,rows⟩=>some {σ with bl:=cg σ.bl d ⟨.arr,s,pc sz rows⟩}
    | _=>none
  | .Mt d=>match av σ.bl d with
    | some ⟨.arr,s,rows⟩=>some {σ with bl:=cg σ.bl d ⟨.arr,s,ar rows⟩}
    | _=>none
  | .Ef k j d sz=>match bM σ.sl k,av σ.bl d with
    | .agg cs,none=>match bM cs j with
      | .zc=>some {σ with sl:=bT σ.sl k (.agg (bT cs j (.own d))),bl:=(d,⟨.arr,sz,[]⟩)::σ.bl}
      | _=>none
    | _,_=>none
noncomputable def eS (σ:St):List Tw->Option St
  | []=>some σ
  | t::l=>match iH σ t with
    | some aA=>eS aA l
    | none=>none
def aab (T:dA)(X:Spec)(o:Oper)(K:St->Prop)(σ:St):Prop:=
 ∃ tw,nS T X o (λaR=>∃ bo,eS aR tw=some bo/\K bo) σ
def kR (σ:St):Nat->List (Nat × Operand)->Option (List (List PV))
  | _,[]=>some []
  | i,(j,x)::l=>match nq j i,σ.get x with
    | true,.str s=>match kR σ (i+1) l with
      | some rs=>some ([.str s]::rs)
      | none=>none
    | true,.int k n=>match kR σ (i+1) l with
      | some rs=>some ([.int k n]::rs)
      | none=>none
    | _,_=>none
def pG (T:dA)(σ:St)(dst:Option Tmp)(t:TypeId)(len:Nat)(ps:List (Nat × Operand)):Option St:=
  match dst,T t with
  | some d,some ⟨.slice e,_,_,_⟩=>match T e,kR σ 0 ps,av σ.bl d with
    | some ie,some rows,none=>match nq ie.size 1 && nq len rows.length && rZ 0 len && zT len 1000 with
      | true=>some {σ with sl:=bT σ.sl d (.own d),bl:=(d,⟨.arr,1,rows⟩)::σ.bl}
      | false=>none
    | _,_,_=>none
  | _,_=>none
def xd (σ:St):Nat->List (Nat × Operand)->Option (List PV)
  | _,[]=>some []
  | i,(j,x)::l=>match nq j i,(match σ.get x with | .agg _=>false | v=>fY v) with
    | true,true=>match xd σ (i+1) l with
      | some rs=>some (σ.get x::rs)
      | none=>none
    | _,_=>none
def yf (T:dA)(σ:St)(dst:Option Tmp)(t:TypeId)(len:Nat)(ps:List (Nat × Operand)):Option St:=
  match dst,T t with
  | some d,some ⟨.slice e,_,_,_⟩=>match T e,xd σ 0 ps,av σ.bl d with
    | some ie,some r,none=>match nq ie.size 1 && nq len r.length && rZ 0 len && zT len 1000 with
      | true=>some {σ with sl:=bT σ.sl d (.own d),bl:=(d,⟨.mul,1,[r]⟩)::σ.bl}
      | false=>none
    | _,_,_=>none
  | _,_=>none
def eC (T:dA)(σ:St)(o:Oper):Option St:=
  match o.op with
  | .unOp .neg _ x=>match σ.get x with
    | .int k n=>some (σ.put o.dst (.int k (k.wrap (0 - n))))
    | _=>none
  | .buildSlice t len ps=>match pG T σ o.dst t len ps.toList with
    | some aR=>some aR
    | none=>yf T σ o.dst t len ps.toList
  | .slice t x (some lo) (some hi) none=>match T t,σ.get x,σ.get lo,σ.get hi with
    | some ⟨.str,_,_,_⟩,.str s,.int _ l,.int _ h=>match decide (0<=l) && decide (l<=h) && decide (h<=s.size) with
      | true=>some (σ.put o.dst (.str (s.extract l.toNat h.toNat)))
      | false=>none
    | _,_,_,_=>none
  | .slice t x none (some hi) none=>match T t,σ.get x,σ.get hi with
    | some ⟨.str,_,_,_⟩,.str s,.int _ h=>match decide (0<=h) && decide (h<=s.size) with
      | true=>some (σ.put o.dst (.str (s.extract 0 h.toNat)))
      | false=>none
    | _,_,_=>none
  | .slice t x (some lo) none none=>match T t,σ.get x,σ.get lo with
    | some ⟨.str,_,_,_⟩,.str s,.int _ l=>match decide (0<=l) && decide (l<=s.size) with
      | true=>some (σ.put o.dst (.str (s.extract l.toNat s.size)))
      | false=>none
    | _,_,_=>none
  | .call c=>match c.callee,c.args.toList with
    | .builtin .max,[x,y]=>match σ.get x,σ.get y with
      | .int .i64 a,.int .i64 b=>some (σ.put o.dst (.int .i64 (max a b)))
      | _,_=>none
    | .builtin .min,[x,y]=>match σ.get x,σ.get y with
      | .int .i64 a,.int .i64 b=>some (σ.put o.dst (.int .i64 (min a b)))
      | _,_=>none
    | _,_=>none
  | .binOp .shr _ x y _=>match σ.get x,σ.get y with
    | .int k a,.int _ b=>match decide (0<=b) && decide (b<=(k.bits:Int)) with
      | true=>some (σ.put o.dst (.int k (a.fdiv (2 ^ b.toNat))))
      | false=>none
    | _,_=>none
  | .binOp .shl _ x y _=>match σ.get x,σ.get y with
    | .int k a,.int _ b=>match decide (0<=b) && decide (b<=(k.bits:Int)) with
      | true=>some (σ.put o.dst (.int k (k.wrap (a * 2 ^ b.toNat))))
      | false=>none
    | _,_=>none
  | .field t x f=>match T t,σ.get x with
    | some ⟨.struct fs _ one,_,_,_⟩,.agg cs=>match fs[f]?,one[f]? with
      | some (off,_),some true=>match cs[off]? with
        | some c=>some (σ.put o.dst c)
        | none=>none
      | _,_=>none
    | _,_=>none
  | _=>none
def RP (T:dA)(o:Oper)(K:St->Prop)(σ:St):Prop:=∃ aR,eC T σ o=some aR/\K aR
def Vy (X:Spec)(o:Oper)(K:St->Prop)(σ:St):Prop:=
 ∃ g d rest n row cs aR ki cx r id,bZ σ o=some (g,.pt d 0 0::rest)/\iT rest=true/\av σ.bl d=some ⟨.var,n,[row]⟩/\ek σ row=some (cs,aR)/\av aR.bl d=some ⟨.var,n,[ki]⟩/\
  X.v g cs (fD σ.bl rest) cx r/\nq cx.length n=true/\cV aR.bl (bJ true id cx).2=true/\
  K (St.put {aR with bl:=(bJ true id cx).2++cg aR.bl d ⟨.var,n,[(bJ true id cx).1]⟩} o.dst (froze r))
def De (ie:TI)(σ:St):Nat->List (Nat × Operand)->Option (List (List PV))
  | 0,[]=>some []
  | 1,[(0,x)]=>match nq (cellsOf (σ.get x)).length ie.size && decide (0 < ie.size) && decide (ie.size<=1000) && eK bG (cellsOf (σ.get x)) with
    | true=>some [cellsOf (σ.get x)]
    | false=>none
  | len,ps=>match kR σ 0 ps with
    | some rows=>match nq ie.size 1 && nq len rows.length && rZ 0 len && zT len 1000 with
      | true=>some rows
      | false=>none
    | none=>none
def JX (T:dA)(o:Oper)(K:St->Prop)(σ:St):Prop:=
 ∃ t e i ie len ps d rows,o.op=.buildSlice t len ps/\o.dst=some d/\av σ.bl d=none/\T t=some i/\i.kind=.slice e/\T e=some ie/\De ie σ len ps.toList=some rows/\K (σ.put o.dst (.sl ie.size rows))
def rh (T:dA)(X:Spec)(o:Oper)(K:St->Prop)(σ:St):Prop:=nS T X o K σ\/RK X o K σ\/RL T o K σ\/RM T o K σ\/RN X o K σ\/aab T X o K σ\/RP T o K σ\/Vy X o K σ\/JX T o K σ
def ji :List Oper->Nat->Option Tmp
 | [],_=>none
 | o::_,0=>o.dst
 | _::l,n+1=>ji l n
def bN (T:dA)(X:Spec)(all:List Oper):List Oper->(St->Prop)->St->Prop
  | [],K,σ=>K σ
  | o::rest,K,σ=>match o.guard with
    | none=>rh T X o (bN T X all rest K) σ
    | some (j,want)=>match ji all j with
      | some t=>match bM σ.sl t with
        | .bool b=>(b=want->rh T X o (bN T X all rest K) σ)/\(b=(!want)->bN T X all rest K (σ.put o.dst (.aw [])))
        | .aw []=>bN T X all rest K (σ.put o.dst (.aw []))
        | _=>False
      | none=>False
def qq :Nat->List Nat->List PV->List PV
 | _,_,[]=>[]
 | _,[],_::l=>.aa::qq 0 [] l
 | k,t::ts,c::l=>bif nq k t then c::qq (k+1) ts l else .aa::qq (k+1) (t::ts) l
def xe (ds:List Nat):List (Nat × aO)->St->St
 | [],σ=>σ
 | (e,_)::l,σ=>bif qp e ds then xe ds l σ else xe ds l (σ.drop e)
def St.keep (σ:St)(ks ds:List Nat):St:=xe ds σ.bl {σ with sl:=qq 0 ks σ.sl}
inductive AE where
 | normal
 | exit (id:Nat)
 | ret
def kp (o:Oper):Bool:=
  match o.op with
  | .move _ | .assign _ | .extract _ _ | .pick .. | .binOp .. | .unOp .. | .fieldAddr .. | .indexAddr .. | .load .. | .nilCheck _ | .makeFunc .. | .slice _ _ _ _ none | .build .. | .index .. | .convert ..=>true
  | .call c=>match c.callee with
    | .builtin .len=>true
    | _=>false
  | _=>false
def BP (o:Oper):Bool:=match o.op with
 | .buildSlice ..=>false
 | _=>true
def F5 (T:dA)(X:Spec)(o:Oper)(K:St->Prop)(σ:St):Prop:=
  match bZ σ o,o.dst with
  | some (g,args),some d=>∃ r,X g (fD σ.bl args) r/\(fresh r\/iT args=true)/\K (σ.put (some d) (froze r))
  | _,_=>match kp o,step T σ o with
    | true,some aA=>K aA
    | _,_=>False
def JY (T:dA)(X:Spec)(o:Oper)(K:St->Prop)(σ:St):Prop:=F5 T X o K σ\/(BP o=true/\RP T o K σ)\/JX T o K σ
def en (T:dA)(X:Spec)(all:List Oper):List Oper->(St->Prop)->St->Prop
  | [],K,σ=>K σ
  | o::rest,K,σ=>match o.guard with
    | none=>JY T X o (en T X all rest K) σ
    | some (j,want)=>match ji all j with
      | some t=>match bM σ.sl t with
        | .bool b=>(b=want->JY T X o (en T X all rest K) σ)/\(b=(!want)->en T X all rest K (σ.put o.dst (.aw [])))
        | .aw []=>en T X all rest K (σ.put o.dst (.aw []))
        | _=>False
      | none=>False
def iD (e:Edge):Bool:=match e.ground with | .textOnly _ | .gcOnly _=>false | _=>true
def zZ (go:Nat->Bool)(j:Nat):List Edge->Bool
  | []=>false
  | e::l=>match iD e with
    | true=>match nq e.on j with
      | true=>true
      | false=>match go e.on with
        | true=>true
        | false=>zZ go j l
    | false=>zZ go j l
def ahead (ops:Array Oper):Nat->Nat->Nat->Bool
  | 0,_,_=>false
  | k+1,i,j=>match ops[i]? with
    | some o=>zZ (λn=>ahead ops k n j) j o.after.toList
    | none=>false
def F6 :List Nat->Nat->Nat
 | [],_=>0
 | b::_,0=>b
 | _::l,n+1=>F6 l n
def Py (rk:List Nat)(n i:Nat)(e:Edge):Bool:=match e.ground with
 | .gcOnly _=>rZ e.on n && rZ (F6 rk e.on) (F6 rk i)
 | .textOnly _=>rZ e.on i
 | _=>rZ e.on i && rZ (F6 rk e.on) (F6 rk i)
def oH (rk:List Nat)(ops:Array Oper):Bool:=
 (List.range ops.size).all λi=>match ops[i]? with
  | some y=>y.after.toList.all λe=>Py rk ops.size i e
  | none=>false
def F7 (ops:Array Oper):Bool:=
  (List.range ops.size).all λi=>match ops[i]? with
    | some y=>(List.range i).all λj=>match ops[j]? with
      | some x=>match x.apart ops y with
        | true=>true
        | false=>ahead ops ops.size i j
      | none=>false
    | none=>false
def ud (rk:List Nat)(ops:Array Oper):Bool:=oH rk ops && F7 ops
def fG :List Bool->Nat->Bool
 | [],_=>false
 | b::_,0=>b
 | _::l,n+1=>fG l n
def lK :List Bool->Nat->List Bool
 | [],_=>[]
 | _::l,0=>true::l
 | b::l,n+1=>b::lK l n
def lx :List Bool->Nat
 | []=>0
 | true::l=>lx l
 | false::l=>lx l+1
def tt (ops:Array Oper)(L:List Bool)(i:Nat):Option Oper:=
  match ops[i]? with
  | some o=>match !fG L i && o.after.toList.all (λe=> !iD e || fG L e.on) with
    | true=>some o
    | false=>none
  | none=>none
def iq (ops:Array Oper)(L:List Bool)(F:Nat->Oper->Prop):List Nat->Prop
  | []=>True
  | i::l=>match tt ops L i with
    | some o=>F i o/\iq ops L F l
    | none=>iq ops L F l
def upto :Nat->Nat->List Nat
 | _,0=>[]
 | i,n+1=>i::upto (i+1) n
def mY (T:dA)(X:Spec)(ops:Array Oper)(K:St->Prop):Nat->List Bool->St->Prop
 | 0,_,σ=>∃ tw aA,eS σ tw=some aA/\K aA
 | n+1,L,σ=>∃ tw aA,eS σ tw=some aA/\iq ops L (λi o=>bN T X ops.toList [o] (mY T X ops K n (lK L i)) aA) (upto 0 ops.size)
def me :Nat->List Bool
 | 0=>[]
 | n+1=>false::me n
def ue (F:(AE->St->Prop)->St->Prop):Nat->(AE->St->Prop)->St->Prop
 | 0,_,_=>False
 | n+1,Q,σ=>F (λe aA=>match e with | .normal=>∃ tw bo ks ds,eS aA tw=some bo/\ue F n Q (bo.keep ks ds) | e=>Q e aA) σ
def fO (T:dA)(X:Spec):Code->(AE->St->Prop)->St->Prop
  | .skip,Q,σ=>Q .normal σ
  | .region _ ops false,Q,σ=>∃ tw aA,eS σ tw=some aA/\bN T X ops.toList ops.toList (λaR=>∃ qt bo,eS aR qt=some bo/\Q .normal bo) aA
  | .region _ ops true,Q,σ=>∃ tw aA,eS σ tw=some aA/\(((∃ rk,ud rk ops=true)/\en T X ops.toList ops.toList (Q .normal) aA)\/((∃ rk,oH rk ops=true)/\mY T X ops (Q .normal) ops.size (me ops.size) aA))
  | .seq a b,Q,σ=>fO T X a (λe aA=>match e with | .normal=>fO T X b Q aA | e=>Q e aA) σ
  | .cond c a b,Q,σ=>match σ.get c with
    | .bool t=>(t=true->fO T X a Q σ)/\(t=false->fO T X b Q σ)
    | _=>False
  | .block id b,Q,σ=>fO T X b (λe aA=>match e with | .exit Aa=>(Aa=id->Q .normal aA)/\(Aa≠id->Q (.exit Aa) aA) | e=>Q e aA) σ
  | .loop b,Q,σ=>(∃ tw kJ ks ds,∃ I:St->Nat->Prop,∃ n,eS σ tw=some kJ/\I (kJ.keep ks ds) n/\
      ∀ σ n,I σ n->fO T X b (λe aA=>match e with | .normal=>∃ m,m < n/\I (aA.keep ks ds) m | e=>Q e aA) σ)\/∃ n,ue (λQ σ=>fO T X b Q σ) n Q σ
  | .exit id,Q,σ=>Q (.exit id) σ
  | .ret,Q,σ=>Q .ret σ
  | _,_,_=>False
def Ab (T:dA)(σ:St):ResultVar->Option PV
  | .tmp t=>some (bM σ.sl t)
  | .cell a t=>match T t,bM σ.sl a with
    | some i,.pt d 0 j=>match av σ.bl d with
      | some ⟨.var,_,[r]⟩=>xa i (r.drop j)
      | _=>none
    | _,_=>none
def km (T:dA)(σ:St):List ResultVar->Option (List PV)
  | []=>some []
  | x::l=>match Ab T σ x with
    | some v=>match zX σ v with
      | some (v',aA)=>match km T aA l with
        | some l'=>some (v'::l')
        | none=>none
      | none=>none
    | none=>none
def lB :List PV->PV
 | [v]=>v
 | vs=>.aw vs
def Jy (fn:Func)(args:List PV):St:={sl:=args++aa0 (fn.ntmps - args.length) .aa,bl:=[]}
abbrev aM :Nat:=1000000000
def Eg (hv:Nat->Value):List (Nat × aO)->List (Nat × Value)
 | []=>[]
 | (d,_)::l=>(d,hv d)::Eg hv l
def BQ (fn:Func)(args:List PV)(hv:Nat->Value):St:=
 {sl:=(cJ true aM args).1++aa0 (fn.ntmps - args.length) .aa,bl:=(cJ true aM args).2,hd:=Eg hv (cJ true aM args).2}
def Ac (σ:St)(id:Nat):PV->Option PV
 | .ow sz _=>match av σ.bl id with | some ⟨.arr,oS,rows⟩=>bif nq oS sz then some (.ow sz rows) else none | _=>none
 | v=>bif bG v then some v else none
def JZ (σ:St)(id:Nat):List PV->Option (List PV)
  | []=>some []
  | c::l=>match Ac σ id c,JZ σ (id+1000) l with
    | some c',some l'=>some (c'::l')
    | _,_=>none
def NT (σ:St)(id:Nat):PV->Option PV
 | .agg cs=>match JZ σ id cs with | some cx=>some (.agg cx) | none=>none
 | v=>Ac σ id v
def Df (σ:St)(id:Nat):List PV->Option (List PV)
  | []=>some []
  | c::l=>match NT σ id c,Df σ (id+100000) l with
    | some c',some l'=>some (c'::l')
    | _,_=>none
def mf (σ:St)(hv:Nat->Value):List (Nat × aO)->Prop
 | []=>True
 | (d,_)::l=>hY σ.hd d=some (hv d)/\mf σ hv l
def Dg (T:dA)(σ:St):List ResultVar->Option (List PV)
  | []=>some []
  | x::l=>match Ab T σ x,Dg T σ l with
    | some v,some l'=>bif bG v then some (v::l') else none
    | _,_=>none
def Eh (T:dA)(X:Spec)(fn:Func)(args az:List PV)(r:PV):Prop:=
  match fn.body with
  | some c=>cV [] (cJ true aM args).2=true/\∀ hv,fO T X c (λe σ=>match e with
    | .exit _=>False
    | _=>mf σ hv (cJ true aM args).2/\Df σ aM args=some az/\∃ us,Dg T σ fn.results.toList=some us/\r=lB us) (BQ fn args hv)
  | none=>False
def Ei (T:dA)(X:Spec)(fn:Func)(args:List PV)(r:PV):Prop:=
  match fn.body with
  | some c=>cV [] (cJ true aM args).2=true/\∀ hv,fO T X c (λe σ=>match e with
    | .exit _=>False
    | _=>∃ us,km T σ fn.results.toList=some us/\r=lB us) (BQ fn args hv)
  | none=>False
def NU (fn:Func)(cs args:List PV)(v:Value):St:=
 {sl:=(.pt aM 0 0::args)++aa0 (fn.ntmps - (args.length+1)) .aa,bl:=(aM,⟨.var,cs.length,[(bJ true (aM+1000) cs).1]⟩)::(bJ true (aM+1000) cs).2,hd:=[(aM,v)]}
def Ej (T:dA)(X:Spec)(fn:Func)(cs args cx:List PV)(r:PV):Prop:=
  match fn.body with
  | some c=>cV [] (bJ true (aM+1000) cs).2=true/\av (bJ true (aM+1000) cs).2 aM=none/\∀ hv,fO T X c (λe σ=>match e with
    | .exit _=>False
    | _=>hY σ.hd aM=some hv/\∃ n row ki aA us,av σ.bl aM=some ⟨.var,n,[row]⟩/\ek σ row=some (cx,aA)/\av aA.bl aM=some ⟨.var,n,[ki]⟩/\km T (aA.drop aM) fn.results.toList=some us/\r=froze (lB us)) (NU fn cs args hv)
  | none=>False
def J0 (T:dA)(X:Spec)(fn:Func)(args:List PV)(r:PV):Prop:=
  match fn.body with
  | some c=>fO T X c (λe σ=>match e with
    | .exit _=>False
    | _=>∃ vs,km T σ fn.results.toList=some vs/\r=lB vs) (Jy fn args)
  | none=>False
end Go.Av
namespace Go.Av
open Go Go.RowKit
set_option linter.unusedVariables false
abbrev Ft :=Nat->Prop
def bf :Ft:=λ_=>False
def iz (w:World)(base:Nat)(e:TypeId)(size:Nat)(v:Value)(n:Nat)(xs:List Value):Prop:=
  xs.length=n * size/\
  ((v=.slice none 0 0/\n=0)\/
   ∃ g cap cur,v=.slice (some ⟨g,0,none⟩) n cap/\base<=g/\w.heap[g]? =some (.cells cur e (0,0))/\n<=cap/\cap<=maxLen/\cap * size<=cur.size/\cur.toList.take (n * size)=xs)
theorem iz.nil (w:World)(base:Nat)(e:TypeId)(size:Nat):iz w base e size (.slice none 0 0) 0 []:=⟨by simp,.inl ⟨rfl,rfl⟩⟩
theorem iz.of {w:World}{base:Nat}{e:TypeId}{size:Nat}{v:Value}{n:Nat}{xs:List Value}(h:w.ownsRow base e size v n xs):iz w base e size v n xs:=by
 refine⟨h.1,?_⟩
 rcases h.2 with h2 | ⟨g,cap,cur,hv,hg,hh,h1,h3,h4,h5⟩
 ·exact .inl h2
 exact .inr ⟨g,cap,cur,hv,hg,hh,h1,h3,Nat.le_of_eq h4.symm,h5⟩
theorem iz.lt {w:World}{base:Nat}{e:TypeId}{size:Nat}{v:Value}{n:Nat}{xs:List Value}(h:iz w base e size v n xs):∀ k,v.ownBlock=some k->base<=k/\k < w.heap.size:=by
 intro k hk
 rcases h.2 with ⟨rfl,_⟩ | ⟨g,cap,cur,rfl,hb,hg,_⟩
 ·simp [Value.ownBlock] at hk
 simp[Value.ownBlock] at hk
 subst hk
 exact⟨hb,(Array.getElem?_eq_some_iff.1 hg).1⟩
theorem iz.cells {w:World}{base:Nat}{e:TypeId}{size:Nat}{v:Value}{n:Nat}{xs:List Value}{g:Nat}(h:iz w base e size v n xs)(hob:v.ownBlock=some g):∀(j:Nat) (u:Value),xs[j]? =some u->w.cell? ((⟨g,0,none⟩:Addr).add j)=some u:=by
 intro j u hj
 rcases h.2 with ⟨rfl,_⟩ | ⟨g',cap,cur,rfl,hb,hg,_,_,_,ht⟩
 ·simp [Value.ownBlock] at hob
 have e1:g'=g:=by simpa [Value.ownBlock] using hob
 subst e1
 rw[<- ht,List.getElem?_take] at hj
 split at hj
 ·rw [Array.getElem?_toList] at hj
  rw[Addr.add_lit]
  simp[World.cell?,hg,hj]
 cases hj
mutual
inductive dj (w:World)(I:Ft):PV->Value->Ft->Prop
 | int (k:IntKind) (n:Int) (F:Ft):dj w I (.int k n) (.int k n) F
 | bool (b:Bool) (F:Ft):dj w I (.bool b) (.bool b) F
 | str (s:ByteArray) (F:Ft):dj w I (.str s) (.string s) F
 | zc (F:Ft):dj w I .zc (.slice none 0 0) F
 | raw (v:Value) (F:Ft) (h1:v.oneCell'=true):dj w I (.raw v) v F
 | aa (v:Value) (F:Ft) (h1:v.oneCell'=true):dj w I .aa v F
 | slnil (sz:Nat) (F:Ft):dj w I (.sl sz []) (.slice none 0 0) F
 | sl (sz:Nat) (rows:List (List PV)) (a:Addr) (cap:Nat) (vs:List Value) (F:Ft) (hu:∀ r∈rows,r.length=sz) (hI:¬ rows=[]->I a.block) (hs:¬ rows=[]->a.spot=none)
   (hc:∀(j:Nat) (u:Value),vs[j]? =some u->w.cell? (a.add j)=some u) (hr:bE w I rows.flatten vs bf) (hcap:rows.length<=cap):dj w I (.sl sz rows) (.slice (some a) rows.length cap) F
 | ow (sz:Nat) (rows:List (List PV)) (v:Value) (e:TypeId) (xs:List Value) (F G:Ft) (hu:∀ r∈rows,r.length=sz) (how:iz w 0 e sz v rows.length xs)
   (hr:bE w I rows.flatten xs G) (hG:∀ b,G b->F b) (hb:∀ b,v.ownBlock=some b->F b/\¬ G b):dj w I (.ow sz rows) v F
inductive bE (w:World)(I:Ft):List PV->List Value->Ft->Prop
 | nil (F:Ft):bE w I [] [] F
 | cons (c:PV) (l:List PV) (v:Value) (vs:List Value) (F G H:Ft) (h:dj w I c v F) (t:bE w I l vs G) (hF:∀ b,F b->H b) (hG:∀ b,G b->H b) (d:∀ b,F b->¬ G b):
   bE w I (c::l) (v::vs) H
end
def bw (S:Ft)(w w':World):Prop:=∀ b,S b->w'.heap[b]? =w.heap[b]?
theorem bw.cell {S:Ft}{w w':World}(h:bw S w w'){a:Addr}(ha:S a.block):w'.cell? a=w.cell? a:=
 World.cell?_of_block (h _ ha)
theorem om (a:Addr)(j:Nat):(a.add j).block=a.block:=by unfold Addr.add;split<;>rfl
theorem bE.len {w:World}{I:Ft}:∀{l:List PV} {vs:List Value} {F:Ft},bE w I l vs F->vs.length=l.length
 | _,_,_,.nil _=>rfl
 | _,_,_,.cons _ _ _ _ _ _ _ _ t _ _ _=>by simp[t.len]
theorem Ad {w w':World}{e sz:Nat}{v:Value}{n:Nat}{xs:List Value}(h:iz w 0 e sz v n xs)(hs:∀ b,v.ownBlock=some b->w'.heap[b]? =w.heap[b]?):
  iz w' 0 e sz v n xs:=by
 refine⟨h.1,?_⟩
 rcases h.2 with h2 | ⟨g,cap,cur,hv,hg,hh,r⟩
 ·exact .inl h2
 exact .inr ⟨g,cap,cur,hv,hg,by rw[hs g (by rw[hv];rfl)];exact hh,r⟩
mutual
theorem dj.frame {w w':World}{I I':Ft}(hI:bw I w w')(gj:∀ b,I b->I' b):∀{c:PV} {v:Value} {F:Ft},dj w I c v F->bw F w w'->dj w' I' c v F
 | _,_,_,.int k n F,_=>.int k n F
 | _,_,_,.bool b F,_=>.bool b F
 | _,_,_,.str s F,_=>.str s F
 | _,_,_,.zc F,_=>.zc F
 | _,_,_,.raw v F h1,_=>.raw v F h1
 | _,_,_,.aa v F h1,_=>.aa v F h1
 | _,_,_,.slnil sz F,_=>.slnil sz F
 | _,_,_,.sl sz rows a cap vs F hu hb hs hc hr hcap,_=>by
  have nT:=bE.frame hI gj hr (λ_ h=>h.elim)
  refine .sl sz rows a cap vs F hu (λh=>gj _ (hb h)) hs ?_ nT hcap
  intro j u hj
  by_cases hrows:rows=[]
  ·subst hrows
   have:=hr.len
   simp at this
   subst this
   simp at hj
  rw[hI.cell (by rw[om];exact hb hrows)];exact hc j u hj
 | _,_,_,.ow sz rows v e xs F G hu how hr hG hb,hF=>
  .ow sz rows v e xs F G hu (Ad how λb h=>hF b (hb b h).1) (bE.frame hI gj hr (λb h=>hF b (hG b h))) hG hb
theorem bE.frame {w w':World}{I I':Ft}(hI:bw I w w')(gj:∀ b,I b->I' b):∀{l:List PV} {vs:List Value} {F:Ft},bE w I l vs F->bw F w w'->bE w' I' l vs F
 | _,_,_,.nil F,_=>.nil F
 | _,_,_,.cons c l v vs F G H h t hF hG d,hH=>
  .cons c l v vs F G H (dj.frame hI gj h (λb hb=>hH b (hF b hb))) (bE.frame hI gj t (λb hb=>hH b (hG b hb))) hF hG d
end
theorem dj.mono {w:World}{I:Ft}{c:PV}{v:Value}{F F':Ft}(h:dj w I c v F)(hF:∀ b,F b->F' b):dj w I c v F':=by
 cases h with
 | int k n F=>exact .int k n _
 | bool b F=>exact .bool b _
 | str s F=>exact .str s _
 | zc F=>exact .zc _
 | raw v F h1=>exact .raw v _ h1
 | aa v F h1=>exact .aa v _ h1
 | slnil sz F=>exact .slnil sz _
 | sl sz rows a cap vs F hu hb hs hc hr hcap=>exact .sl sz rows a cap vs _ hu hb hs hc hr hcap
 | ow sz rows v e xs F G hu how hr hG hb=>exact .ow sz rows v e xs _ G hu how hr (λb h=>hF b (hG b h)) (λb h=>⟨hF b (hb b h).1,(hb b h).2⟩)
theorem bE.mono {w:World}{I:Ft}{l:List PV}{vs:List Value}{F F':Ft}(h:bE w I l vs F)(hF:∀ b,F b->F' b):bE w I l vs F':=by
 cases h with
 | nil F=>exact .nil _
 | cons c l v vs F G H h t uy hG d=>exact .cons c l v vs F G _ h t (λb hb=>hF b (uy b hb)) (λb hb=>hF b (hG b hb)) d
theorem bw.mono {S S':Ft}{w w':World}(h:bw S w w')(hs:∀ b,S' b->S b):bw S' w w':=λb hb=>h b (hs b hb)
theorem bw.refl (S:Ft)(w:World):bw S w w:=λ_ _=>rfl
theorem zr :∀(l:List PV),(dh l).length=l.length
 | []=>rfl
 | _::l=>by simp[dh,zr l]
theorem zw :∀(rows:List (List PV)),(ar rows).length=rows.length
 | []=>rfl
 | _::l=>by simp[ar,zw l]
theorem EG {sz:Nat}:∀(rows:List (List PV)),(∀ r∈rows,r.length=sz)->∀ r∈ar rows,r.length=sz
 | [],_,_,h=>by simp[ar] at h
 | r0::l,hu,r,h=>by
  simp only[ar,List.mem_cons] at h
  rcases h with rfl | h
  ·rw [zr];exact hu r0 (by simp)
  exact EG l (λr hr=>hu r (by simp[hr])) r h
theorem zx :∀(a b:List PV),dh (a++b)=dh a++dh b
 | [],_=>rfl
 | _::a,b=>by simp[dh,zx a b]
theorem rD :∀(rows:List (List PV)),(ar rows).flatten=dh rows.flatten
 | []=>rfl
 | r::l=>by simp[ar,zx,rD l]
mutual
theorem dj.erase {w:World}{I J:Ft}(iV:∀ b,I b->J b):∀{c:PV} {v:Value} {F:Ft},dj w I c v F->(∀ b,F b->J b)->dj w J (erase c) v bf
 | _,_,_,.int k n F,_=>.int k n _
 | _,_,_,.bool b F,_=>.bool b _
 | _,_,_,.str s F,_=>.str s _
 | _,_,_,.zc F,_=>.zc _
 | _,_,_,.raw v F h1,_=>.aa v _ h1
 | _,_,_,.aa v F h1,_=>.aa v _ h1
 | _,_,_,.slnil sz F,_=>.slnil sz _
 | _,_,_,.sl sz rows a cap vs F hu hb hs hc hr hcap,_=>.sl sz rows a cap vs _ hu (λh=>iV _ (hb h)) hs hc (bE.frame (bw.refl _ _) iV hr (bw.refl _ _)) hcap
 | _,_,_,.ow sz rows v e xs F G hu how hr hG hb,hF=>by
  have nT:=bE.erase iV hr (λb h=>hF b (hG b h))
  rw[<- rD] at nT
  have sU:∀ r∈ar rows,r.length=sz:=EG rows hu
  have hlen:(ar rows).length=rows.length:=zw rows
  unfold Av.erase
  rcases how.2 with ⟨rfl,hn⟩ | ⟨g,cap,cur,rfl,_,hh,hncap,_⟩
  ·have:rows=[]:=List.eq_nil_of_length_eq_zero hn
   subst this
   exact .slnil sz _
  rw[<- hlen]
  refine .sl sz (ar rows) ⟨g,0,none⟩ cap xs _ sU (λ_=>hF g (hb g rfl).1) (λ_=>rfl) ?_ nT (by rw[hlen];exact hncap)
  intro j u hj
  exact how.cells (g:=g) rfl j u hj
theorem bE.erase {w:World}{I J:Ft}(iV:∀ b,I b->J b):∀{l:List PV} {vs:List Value} {F:Ft},bE w I l vs F->(∀ b,F b->J b)->bE w J (dh l) vs bf
 | _,_,_,.nil F,_=>.nil _
 | _,_,_,.cons c l v vs F G H h t hF hG d,hH=>
  .cons _ _ v vs bf bf _ (dj.erase iV h (λb hb=>hH b (hF b hb))) (bE.erase iV t (λb hb=>hH b (hG b hb))) (λ_ h=>h) (λ_ h=>h) (λ_ h=>h.elim)
end
def jJ :Value->Option Nat
 | .pointer (some a)=>some a.block
 | .slice (some a) _ _=>some a.block
 | _=>none
mutual
inductive bI (w:World)(I:Ft)(val:Nat->Value)(bl:List (Nat × aO)):PV->Value->Prop
 | leaf (c:PV) (v:Value) (hl:bG c=true) (h:dj w I c v bf):bI w I val bl c v
 | own (d:Nat) (b:aO) (hb:av bl d=some b) (hk:b.k≠ .var):bI w I val bl (.own d) (val d)
 | pt (d i j:Nat) (b:aO) (g:Nat) (hb:av bl d=some b) (hg:jJ (val d)=some g):bI w I val bl (.pt d i j) (.pointer (some ⟨g,i * b.sz+j,none⟩))
 | rd (cs:List PV) (a:Addr) (vs:List Value) (hI:¬ cs=[]->I a.block) (hs:a.spot=none) (hc:∀(j:Nat) (u:Value),vs[j]? =some u->w.cell? (a.add j)=some u)
   (hr:bE w I cs vs bf):bI w I val bl (.rd cs) (.pointer (some a))
 | agg (cs:List PV) (vs:List Value) (h:aG w I val bl cs vs):bI w I val bl (.agg cs) (.agg vs.toArray)
 | aw (cs:List PV) (vs:List Value) (h:aG w I val bl cs vs):bI w I val bl (.aw cs) (.tuple vs.toArray)
 | fn (f:FuncId) (cs:List PV) (vs:List Value) (h:aG w I val bl cs vs):bI w I val bl (.fn f cs) (.func (.func f) #[] vs.toArray)
 | aa (v:Value):bI w I val bl .aa v
inductive aG (w:World)(I:Ft)(val:Nat->Value)(bl:List (Nat × aO)):List PV->List Value->Prop
 | nil:aG w I val bl [] []
 | cons (c:PV) (l:List PV) (v:Value) (vs:List Value) (h:bI w I val bl c v) (t:aG w I val bl l vs):aG w I val bl (c::l) (v::vs)
end
def Ext (bl cy:List (Nat × aO))(val cr:Nat->Value):Prop:=
 ∀ d b,av bl d=some b->(∃ b',av cy d=some b'/\b'.sz=b.sz/\b'.k=b.k)/\cr d=val d
theorem Ext.refl (bl:List (Nat × aO))(val:Nat->Value):Ext bl bl val val:=λ_ b h=>⟨⟨b,h,rfl,rfl⟩,rfl⟩
mutual
theorem bI.frame {w w':World}{I I':Ft}{val cr:Nat->Value}{bl cy:List (Nat × aO)}(hI:bw I w w')(gj:∀ b,I b->I' b)(hE:Ext bl cy val cr):
  ∀{c:PV} {v:Value},bI w I val bl c v->bI w' I' cr cy c v
 | _,_,.leaf c v hl h=>.leaf c v hl (dj.frame hI gj h (λ_ h=>h.elim))
 | _,_,.own d b hb hk=>by
  obtain⟨⟨b',cP,_,jl⟩,hv⟩:=hE d b hb
  rw[<- hv]
  exact .own d b' cP (by rw[jl];exact hk)
 | _,_,.pt d i j b g hb hg=>by
  obtain⟨⟨b',cP,hs,_⟩,hv⟩:=hE d b hb
  rw[<- hs]
  exact .pt d i j b' g cP (by rw[hv];exact hg)
 | _,_,.rd cs a vs hb hs hc hr=>by
  refine .rd cs a vs (λh=>gj _ (hb h)) hs ?_ (bE.frame hI gj hr (λ_ h=>h.elim))
  intro j u hj
  by_cases hcs:cs=[]
  ·subst hcs
   have:=hr.len
   simp at this
   subst this
   simp at hj
  rw[hI.cell (by rw[om];exact hb hcs)];exact hc j u hj
 | _,_,.agg cs vs h=>.agg cs vs (aG.frame hI gj hE h)
 | _,_,.aw cs vs h=>.aw cs vs (aG.frame hI gj hE h)
 | _,_,.fn f cs vs h=>.fn f cs vs (aG.frame hI gj hE h)
 | _,_,.aa v=>.aa v
theorem aG.frame {w w':World}{I I':Ft}{val cr:Nat->Value}{bl cy:List (Nat × aO)}(hI:bw I w w')(gj:∀ b,I b->I' b)(hE:Ext bl cy val cr):
  ∀{l:List PV} {vs:List Value},aG w I val bl l vs->aG w' I' cr cy l vs
 | _,_,.nil=>.nil
 | _,_,.cons c l v vs h t=>.cons c l v vs (bI.frame hI gj hE h) (aG.frame hI gj hE t)
end
section
variable {w : World} {I : Ft} {val : Nat -> Value} {bl : List (Nat × aO)}
theorem aG.len :∀{l:List PV} {vs:List Value},aG w I val bl l vs->vs.length=l.length
 | _,_,.nil=>rfl
 | _,_,.cons _ _ _ _ _ t=>by simp[t.len]
theorem aG.get :∀{l:List PV} {vs:List Value},aG w I val bl l vs->∀(k:Nat) (dv:Value),bI w I val bl (bM l k) (vs.getD k dv)
 | _,_,.nil,k,dv=>by cases k<;>exact .aa _
 | _,_,.cons c l v vs h t,0,dv=>h
 | _,_,.cons c l v vs h t,k+1,dv=>by simpa [bM] using t.get k dv
theorem kK {α:Type}:∀(l:List α) (k:Nat) (x:α),(bT l k x).length=l.length
 | [],_,_=>rfl
 | _::_,0,_=>rfl
 | _::l,k+1,x=>by simp[bT,kK l k x]
theorem B1 {α:Type}:∀(l:List α) (k:Nat) (x:α),bT l k x=l.set k x
 | [],_,_=>rfl
 | _::_,0,_=>rfl
 | _::l,k+1,x=>by simp[bT,B1 l k x]
theorem aG.set :∀{l:List PV} {vs:List Value},aG w I val bl l vs->∀(k:Nat) {c:PV} {v:Value},bI w I val bl c v->aG w I val bl (bT l k c) (vs.set k v)
 | _,_,.nil,_,_,_,_=>.nil
 | _,_,.cons c l v vs h t,0,_,_,hc=>.cons _ _ _ _ hc t
 | _,_,.cons c l v vs h t,k+1,_,_,hc=>.cons _ _ _ _ h (t.set k hc)
theorem aG.append :∀{l l':List PV} {vs xf:List Value},aG w I val bl l vs->aG w I val bl l' xf->aG w I val bl (l++l') (vs++xf)
 | _,_,_,_,.nil,h=>h
 | _,_,_,_,.cons c l v vs h t,h'=>.cons _ _ _ _ h (t.append h')
theorem aG.drop :∀{l:List PV} {vs:List Value},aG w I val bl l vs->∀(k:Nat),aG w I val bl (l.drop k) (vs.drop k)
 | _,_,h,0=>h
 | _,_,.nil,_+1=>.nil
 | _,_,.cons c l v vs h t,k+1=>t.drop k
theorem bE.drop :∀{l:List PV} {vs:List Value} {F:Ft},bE w I l vs F->∀(k:Nat),bE w I (l.drop k) (vs.drop k) F
 | _,_,_,h,0=>h
 | _,_,_,.nil F,_+1=>.nil F
 | _,_,_,.cons c l v vs F G H h t hF hG d,k+1=>(t.drop k).mono hG
end
def mg (w:World)(I:Ft)(val:Nat->Value)(bl:List (Nat × aO))(sz:Nat)(r:List PV)(g:Nat)(F:Ft):Prop:=
 ∃ T c,F g/\w.heap[g]? =some (.cells c T (0,0))/\aG w I val bl r c.toList/\r.length=sz/\∀ u∈c.toList,u.oneCell'=true
def yg (w:World)(I:Ft)(sz:Nat)(rows:List (List PV))(v:Value)(F:Ft):Prop:=
 ∃ e xs G,(∀ r∈rows,r.length=sz)/\iz w 0 e sz v rows.length xs/\bE w I rows.flatten xs G/\(∀ b,G b->F b)/\(∀ b,v.ownBlock=some b->F b/\¬ G b)
def iU (w:World)(I:Ft)(val:Nat->Value)(bl:List (Nat × aO)):aO->Value->Ft->Prop
 | ⟨.var,sz,[r]⟩,v,F=>∃ g,v=.pointer (some ⟨g,0,none⟩)/\mg w I val bl sz r g F
 | ⟨.lit,sz,[r]⟩,v,F=>∃ g,v=.slice (some ⟨g,0,none⟩) 1 1/\0 < sz/\mg w I val bl sz r g F
 | ⟨.arr,sz,rows⟩,v,F=>yg w I sz rows v F
 | ⟨.mul,sz,[r]⟩,v,F=>∃ g,v=.slice (some ⟨g,0,none⟩) r.length r.length/\sz=1/\mg w I val bl r.length r g F
 | _,_,_=>False
structure Kept (B:Ft)(w w':World):Prop where
 os:w'.os=w.os
 tape:w'.tape=w.tape
 output:w'.output=w.output
 size:w.heap.size<=w'.heap.size
 block:∀ k,¬ B k->w'.heap[k]? =w.heap[k]?
theorem Kept.refl (B:Ft)(w:World):Kept B w w:=⟨rfl,rfl,rfl,Nat.le_refl _,λ_ _=>rfl⟩
theorem Kept.trans {B:Ft}{a b c:World}(h:Kept B a b)(k:Kept B b c):Kept B a c:=
 ⟨k.os.trans h.os,k.tape.trans h.tape,k.output.trans h.output,Nat.le_trans h.size k.size,λi hi=>(k.block i hi).trans (h.block i hi)⟩
theorem Kept.mono {B B':Ft}{w w':World}(h:Kept B w w')(hB:∀ x,B x->B' x):Kept B' w w':=⟨h.os,h.tape,h.output,h.size,λk hk=>h.block k λhb=>hk (hB k hb)⟩
theorem Kept.below {B:Ft}{w w':World}(h:Below w.heap.size w w')(hB:∀ x,w.heap.size<=x->B x):Kept B w w':=
 ⟨h.os,h.tape,h.output,h.size,λk hk=>h.block k (Nat.lt_of_not_le λhb=>hk (hB k hb))⟩
theorem Kept.VS {w w':World}(h:Kept (λx=>w.heap.size<=x) w w'):Below w.heap.size w w':=
 ⟨h.os,h.tape,h.output,h.size,λk hk=>h.block k (Nat.not_le_of_lt hk)⟩
structure bz (B:Ft)(W0:World)(I0 I:Ft)(val:Nat->Value)(fs:Nat->Ft)(σ:St)(a:Act)(w:World):Prop where
 cC:aG w I val σ.bl σ.sl a.tmps.toList
 blocks:∀ d b,av σ.bl d=some b->iU w I val σ.bl b (val d) (fs d)
 bX:∀ d d' b b',av σ.bl d=some b->av σ.bl d'=some b'->d≠d'->∀ x,fs d x->¬ fs d' x
 dt:∀ d b,av σ.bl d=some b->∀ x,fs d x->¬ I x
 new:∀ d b,av σ.bl d=some b->∀ x,fs d x->B x/\x < w.heap.size
 lt:∀ x,I x->x < w.heap.size
 eJ:∀ x,I x->I0 x\/B x
 below:Kept B W0 w
 size:∀ x,w.heap.size<=x->B x
 dP:∀ d v,hY σ.hd d=some v->val d=v/\∃ b,av σ.bl d=some b
 defers:a.defers=[]
def eo (B:Ft)(W0:World)(I0:Ft)(σ:St)(a:Act)(w:World):Prop:=∃ I val fs,bz B W0 I0 I val fs σ a w
theorem Qj {w:World}{I:Ft}{val:Nat->Value}{bl:List (Nat × aO)}(v:Value):bI w I val bl (NR v) v:=by
 unfold NR
 split
 ·exact .leaf _ _ rfl (.int _ _ _)
 ·exact .leaf _ _ rfl (.bool _ _)
 ·exact .leaf _ _ rfl (.str _ _)
 ·exact .leaf _ _ rfl (.zc _)
 exact .aa _
section
variable {B : Ft} {W0 : World} {I0 : Ft} {I : Ft} {val : Nat -> Value} {fs : Nat -> Ft} {σ : St} {a : Act} {w : World}
theorem bz.eval (h:bz B W0 I0 I val fs σ a w)(x:Operand):bI w I val σ.bl (σ.get x) (a.eval x):=by
 cases x with
 | tmp t=>
  have:=h.cC.get t undef
  simpa [St.get,Act.eval] using this
 | const v=>exact Qj v
 | global g=>exact .aa _
 | func f=>exact .fn f [] [] .nil
theorem Oy (a:Act)(d:Nat)(v:Value):(a.put (some d) v).tmps.toList=a.tmps.toList.set d v:=by
 simp[Act.put]
theorem bz.put (h:bz B W0 I0 I val fs σ a w)(dst:Option Tmp){c:PV}{v:Value}(hc:bI w I val σ.bl c v):bz B W0 I0 I val fs (σ.put dst c) (a.put dst v) w:=by
 cases dst with
 | none=>exact h
 | some d=>
  refine{cC:= ?_,blocks:=h.blocks,bX:=h.bX,dt:=h.dt,new:=h.new,lt:=h.lt,eJ:=h.eJ,below:=h.below,size:=h.size,dP:=h.dP,defers:=h.defers}
  rw[Oy]
  exact h.cC.set d hc
end
end Go.Av

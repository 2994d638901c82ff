/- Lemmas and walks for FnExactServerNew: what each function of the program and of the reference comes to. -/
import Derived.Test.YtghokbigemmaaaaGreatAvi
import Derived.Test.YtghokbigemmaaaaGreatAvq3
import Derived.Lib.SlicesCompact
open ByteArray renaming empty→aaM,mk→aaP
open List renaming map→aaN,getElem?_eq_some_iff→aaZ,getElem?_eq_getElem→aa7,drop_eq_getElem_cons→abK,map_cons→abL,map_append→abQ,singleton_append→aca
open Bool renaming and_eq_true→aaR,beq_eq_decide_eq→abc,and_self→abV,true_and→ab5
namespace Go.Av
open Go Go.RowKit
set_option linter.unusedVariables false
set_option linter.unusedSimpArgs false
section
variable {P : Program} {A : ax} {T : dA} {X : Spec} {all l l' : List Oper} {σ aA : St} {o : Oper} {K : St -> Prop} {Q : AE -> St -> Prop}
theorem aF {b:Code}(I:St->Nat->Prop)(n:Nat)(tw:List Tw)(ks ds:List Nat)(kJ:St)(ht:eS σ tw=some aA)(h0:aA.keep ks ds=kJ)(hi:I kJ n)
  (hstep:∀ σ n,I σ n->fO T X b (λe bo=>match e with | .normal=>∃ mZ m,m < n/\bo.keep ks ds=mZ/\I mZ m | e=>Q e bo) σ):fO T X (.loop b) Q σ:=by
 refine .inl ⟨tw,aA,ks,ds,I,n,ht,h0 ▸ hi,λmZ m hI=>Kb ?_ (hstep mZ m hI)⟩
 intro e bo h2
 cases e with
 | normal=>obtain⟨σ4,m',h3,h4,h5⟩:=h2;exact⟨m',h3,h4 ▸ h5⟩
 | exit id=>exact h2
 | ret=>exact h2
theorem aae {a:Code}{Φ:St->Prop}(hK:∀ σ,Φ σ->Q .normal σ)(h:fO T X a (λe σ=>match e with | .normal=>Φ σ | e=>Q e σ) σ):fO T X a Q σ:=
 Kb (λe σ h=>by cases e<;>first | exact hK _ h | exact h) h
theorem pY {b:Code}(n:Nat)(h:ue (λQ σ=>fO T X b Q σ) n Q σ):fO T X (.loop b) Q σ:=.inr ⟨n,h⟩
theorem gK {F:(AE->St->Prop)->St->Prop}{n:Nat}(h:F (λe aA=>match e with | .normal=>∃ tw bo ks ds,eS aA tw=some bo/\ue F n Q (bo.keep ks ds) | e=>Q e aA) σ):ue F (n+1) Q σ:=h
theorem mj {F:(AE->St->Prop)->St->Prop}{n:Nat}{bo mZ:St}(tw:List Tw)(ks ds:List Nat)(ht:eS σ tw=some bo)(hk:bo.keep ks ds=mZ)(h:ue F n Q mZ):∃ tw bo ks ds,eS σ tw=some bo/\ue F n Q (bo.keep ks ds):=
 ⟨tw,bo,ks,ds,ht,hk ▸ h⟩
theorem jE {P:Program}{g:FuncId}{args az eR PE:List PV}{r:PV}(h:args=eR)(h':az=PE)(hr:fo P g eR PE r):fo P g args az r:=h ▸ h' ▸ hr
theorem tP {t:TypeId}{x y:Operand}{t':TypeId}{a b s:ByteArray}(ho:o.op=.binOp .add t x y t')(hx:σ.get x=.str a)(hy:σ.get y=.str b)(hs:s=a++b)(hl:a.size+b.size<=140737488355328):step T σ o=some (σ.put o.dst (.str s)):=by
 subst hs
 simp only[step,ho,hx,hy,pd,binop,JH,hl,decide_true,cond_true]
theorem Ux {A:ax}(hA:A=aj){t:TypeId}{x y:Operand}{t':TypeId}{a b v:Int}(ho:o.op=.binOp .add t x y t')(hx:σ.get x=.int .i64 a)(hy:σ.get y=.int .i64 b)(hv:A.num .add .i64 a b=v):step T σ o=some (σ.put o.dst (.int .i64 v)):=by
 subst hv;subst hA
 simp only[step,ho,hx,hy,pd,binop]
 rfl
theorem RY {Q:AE->St->Prop}{id n:Nat}{ops:Array Oper}{L0:List Bool}(rk:List Nat)(he:oH rk ops=true)(hn:ops.size=n)(hL:me n=L0)(ui:St)(h:∀(R:Array Oper) (K:St->Prop),R=ops->K ui->mY T X R K n L0 σ)(hF:Q .normal ui):fO T X (.region id ops true) Q σ:=by
 subst hn;subst hL
 exact⟨[],σ,rfl,.inr ⟨⟨rk,he⟩,h ops _ rfl hF⟩⟩
theorem rv {R:Array Oper}{n:Nat}{L:List Bool}{is:List Nat}(hi:upto 0 R.size=is)(h:iq R L (λi o=>bN T X R.toList [o] (mY T X R K n (lK L i)) σ) is):mY T X R K (n+1) L σ:=by
 subst hi
 exact⟨[],σ,rfl,h⟩
theorem RZ {R:Array Oper}{L:List Bool}(h:K σ):mY T X R K 0 L σ:=⟨[],σ,rfl,h⟩
theorem Ak :∀(a b:List Tw) (σ aR:St),eS σ a=some aR->eS σ (a++b)=eS aR b
 | [],b,σ,aR,h=>by simp only[eS,Option.some.injEq] at h;subst h;rfl
 | t::a,b,σ,aR,h=>by
  simp only[eS,List.cons_append] at h ⊢
  split at h
  ·rename_i bo h2;exact Ak a b bo aR h
  cases h
theorem uj {R:Array Oper}{n:Nat}{L L':List Bool}(tw:List Tw)(ht:eS σ tw=some aA)(hL:L=L')(h:mY T X R K n L' aA):mY T X R K n L σ:=by
 subst hL
 cases n with
 | zero=>obtain⟨qt,bo,h2,h3⟩:=h;exact⟨tw++qt,bo,by rw[Ak _ _ _ _ ht];exact h2,h3⟩
 | succ n=>obtain⟨qt,bo,h2,h3⟩:=h;exact⟨tw++qt,bo,by rw[Ak _ _ _ _ ht];exact h2,h3⟩
theorem Me {R:Array Oper}{L:List Bool}{F:Nat->Oper->Prop}{i:Nat}{l:List Nat}(ho:tt R L i=none)(ht:iq R L F l):iq R L F (i::l):=by
 simp only[iq,ho];exact ht
def BT :List Edge->List Nat
  | []=>[]
  | e::l=>match iD e with
    | true=>e.on::BT l
    | false=>BT l
def N2 (L:List Bool):List Nat->Prop
 | []=>True
 | d::ds=>fG L d=true/\N2 L ds
theorem Al {L:List Bool}:∀ l:List Edge,(l.all λe=> !iD e || fG L e.on)=true->N2 L (BT l)
 | [],_=>trivial
 | e::l,h=>by
  simp only[List.all_cons,aaR] at h
  unfold BT
  cases hb:iD e with
  | false=>exact Al l h.2
  | true=>
   have h1:=h.1
   rw[hb] at h1
   exact⟨by simpa using h1,Al l h.2⟩
theorem gX {R:Array Oper}{L:List Bool}{F:Nat->Oper->Prop}{i:Nat}{l ds:List Nat}{o:Oper}(ho:R[i]? =some o)(hd:BT o.after.toList=ds)(h:fG L i=false->N2 L ds->F i o)(ht:iq R L F l):iq R L F (i::l):=by
 subst hd
 simp only[iq,tt,ho]
 cases hb:fG L i with
 | true=>simpa only[Bool.not_true,Bool.false_and] using ht
 | false=>
  cases ha:(o.after.toList.all λe=> !iD e || fG L e.on) with
  | false=>simpa only[Bool.not_false,ab5] using ht
  | true=>exact⟨h hb (Al _ ha),ht⟩
theorem Uy {L:List Bool}{i n:Nat}(h0:fG L i=false)(hi:i < L.length)(hn:lx L=n+1):lx (lK L i)=n:=by
 have:=vp L i hi h0;omega
theorem R4 {fn:Func}{c:Code}{args:List PV}{r:PV}(hb:fn.body=some c)(hfr:cV [] (cJ true aM args).2=true)
  (h:∀ hv,fO T X c (λe σ=>match e with
  | .exit _=>False
  | _=>∃ us,km T σ fn.results.toList=some us/\r=lB us) (BQ fn args hv)):Ei T X fn args r:=by
 unfold Ei;rw[hb];exact⟨hfr,h⟩
theorem N3 {P:Program}{g:FuncId}{args eR:List PV}{r:PV}(h:args=eR)(hr:jh P g eR r):jh P g args r:=h ▸ hr
theorem Am {g:FuncId}{args eR:List PV}{r:PV}{d d0:Nat}(hg:o.guard=none)(hc:bZ σ o=some (g,args))(hd:o.dst=some d)(hl:vi σ.bl args=some eR)(hn:pA args=[d0])(hX:X.c g eR r)(hf:cV (σ.drop d0).bl (gH true d r).2=true)
  (h:bN T X all l K ((σ.drop d0).bind d r)):bN T X all (o::l) K σ:=by
 simp only[bN,hg]
 exact .inr (.inr (.inr (.inr (.inl ⟨g,args,eR,r,d,d0,hc,hd,hl,hn,hX,hf,h⟩))))
theorem Kc (tw:List Tw)(hg:o.guard=none)(hc:bZ σ o=none){aR bo:St}(hs:step T σ o=some aR)(ht:eS aR tw=some bo)(h:bN T X all l K bo):bN T X all (o::l) K σ:=by
 simp only[bN,hg]
 refine .inr (.inr (.inr (.inr (.inr (.inl ⟨tw,?_⟩)))))
 unfold nS
 rw[hc]
 simp only[hs]
 exact⟨bo,ht,h⟩
theorem fk (hg:o.guard=none){aR:St}(hs:eC T σ o=some aR)(h:bN T X all l K aR):bN T X all (o::l) K σ:=by
 simp only[bN,hg]
 exact .inr (.inr (.inr (.inr (.inr (.inr (.inl ⟨aR,hs,h⟩))))))
theorem R5 (hg:o.guard=none)(hp:BP o=true){aR:St}(hs:eC T σ o=some aR)(h:en T X all l K aR):en T X all (o::l) K σ:=by
 simp only[en,hg]
 exact .inr (.inl ⟨hp,aR,hs,h⟩)
theorem Uz {t:TypeId}{e d:Nat}{i ie:TI}{len:Nat}{ps:Array (Nat × Operand)}{rows r:List (List PV)}{K:St->Prop}(ho:o.op=.buildSlice t len ps)(hd:o.dst=some d)(hT:T t=some i)(hkd:i.kind=.slice e)(gQ:T e=some ie)(hl:De ie σ len ps.toList=some rows)(hb:av σ.bl d=none)(hr:r=rows)
  (h:K (σ.put (some d) (.sl ie.size r))):JX T o K σ:=by
 subst hr
 exact⟨t,e,i,ie,len,ps,d,r,ho,hd,hb,hT,hkd,gQ,hl,by rw[hd];exact h⟩
theorem PF {t:TypeId}{e d:Nat}{i ie:TI}{len:Nat}{ps:Array (Nat × Operand)}{rows r:List (List PV)}(hg:o.guard=none)(ho:o.op=.buildSlice t len ps)(hd:o.dst=some d)(hT:T t=some i)(hkd:i.kind=.slice e)(gQ:T e=some ie)(hl:De ie σ len ps.toList=some rows)(hb:av σ.bl d=none)(hr:r=rows)
  (h:en T X all l K (σ.put (some d) (.sl ie.size r))):en T X all (o::l) K σ:=by
 simp only[en,hg]
 exact .inr (.inr (Uz ho hd hT hkd gQ hl hb hr h))
theorem nY {g:FuncId}{d n:Nat}{rest vq row ki cs cx:List PV}{aR:St}{r:PV}(id:Nat)(hg:o.guard=none)(hc:bZ σ o=some (g,.pt d 0 0::rest))(hb:av σ.bl d=some ⟨.var,n,[row]⟩)(ha:ek σ row=some (cs,aR))(gg:av aR.bl d=some ⟨.var,n,[ki]⟩)
  (hv:fD σ.bl rest=vq) (hX:X.v g cs vq cx r) (jL:iT rest=true) (hl:nq cx.length n=true) (hf:cV aR.bl (bJ true id cx).2=true)
  (h:bN T X all l K (St.put {aR with bl:=(bJ true id cx).2++cg aR.bl d ⟨.var,n,[(bJ true id cx).1]⟩} o.dst (froze r))):bN T X all (o::l) K σ:=by
 simp only[bN,hg]
 exact .inr (.inr (.inr (.inr (.inr (.inr (.inr (.inl ⟨g,d,rest,n,row,cs,aR,ki,cx,r,id,hc,jL,hb,ha,gg,hv ▸ hX,hl,hf,h⟩)))))))
theorem PG {j:Nat}{t:Tmp}{want:Bool}{g:FuncId}{d n:Nat}{rest vq row ki cs cx:List PV}{aR:St}{r:PV}(id:Nat)(hg:o.guard=some (j,want))(hd:ji all j=some t)(hbb:bM σ.sl t=.bool want)(hc:bZ σ o=some (g,.pt d 0 0::rest))(hb:av σ.bl d=some ⟨.var,n,[row]⟩)(ha:ek σ row=some (cs,aR))(gg:av aR.bl d=some ⟨.var,n,[ki]⟩)
  (hv:fD σ.bl rest=vq) (hX:X.v g cs vq cx r) (jL:iT rest=true) (hl:nq cx.length n=true) (hf:cV aR.bl (bJ true id cx).2=true)
  (h:bN T X all l K (St.put {aR with bl:=(bJ true id cx).2++cg aR.bl d ⟨.var,n,[(bJ true id cx).1]⟩} o.dst (froze r))):bN T X all (o::l) K σ:=
 vr hg hd hbb (.inr (.inr (.inr (.inr (.inr (.inr (.inr (.inl ⟨g,d,rest,n,row,cs,aR,ki,cx,r,id,hc,jL,hb,ha,gg,hv ▸ hX,hl,hf,h⟩))))))))
theorem yk {P:Program}{g:FuncId}{cs Mw args eR cx VC:List PV}{r:PV}(h0:cs=Mw)(h:args=eR)(h':cx=VC)(hr:jA P g Mw eR VC r):jA P g cs args cx r:=h0 ▸ h ▸ h' ▸ hr
theorem uk {fn:Func}{c:Code}{cs args cx:List PV}{r:PV}(hb:fn.body=some c)(hfr:cV [] (bJ true (aM+1000) cs).2=true)(hn:av (bJ true (aM+1000) cs).2 aM=none)
  (h:∀ hv,fO T X c (λe σ=>match e with
  | .exit _=>False
  | _=>hY σ.hd aM=some hv/\∃ n row ki aA us,av σ.bl aM=some ⟨.var,n,[row]⟩/\ek σ row=some (cx,aA)/\av aA.bl aM=some ⟨.var,n,[ki]⟩/\km T (aA.drop aM) fn.results.toList=some us/\r=froze (lB us)) (NU fn cs args hv)):Ej T X fn cs args cx r:=by
 unfold Ej;rw[hb];exact⟨hfr,hn,h⟩
theorem xh {T:dA}{σ aA:St}{hv:Value}{n:Nat}{row ki cs cx us:List PV}{rs:List ResultVar}{r:PV}(h1:hY σ.hd aM=some hv)(h2:av σ.bl aM=some ⟨.var,n,[row]⟩)(h3:ek σ row=some (cs,aA))(h4:av aA.bl aM=some ⟨.var,n,[ki]⟩)(h5:km T (aA.drop aM) rs=some us)
  (h6:cx=cs) (h7:r=froze (lB us)):hY σ.hd aM=some hv/\∃ n row ki aA us,av σ.bl aM=some ⟨.var,n,[row]⟩/\ek σ row=some (cx,aA)/\av aA.bl aM=some ⟨.var,n,[ki]⟩/\km T (aA.drop aM) rs=some us/\r=froze (lB us):=
 ⟨h1,n,row,ki,aA,us,h2,h6 ▸ h3,h4,h5,h7⟩
theorem Mx {t:TypeId}{d e fI lX len:Nat}{z0 r:List PV}{ie:TI}{ps:Array (Nat × Operand)}(hd:o.dst=some d)(ho:o.op=.buildSlice t len ps)(hT:T t=some ⟨.slice e,fI,lX,z0⟩)(gQ:T e=some ie)(hM:kR σ 0 ps.toList=none)(hP:xd σ 0 ps.toList=some r)(hb:av σ.bl d=none)
  (hc:(nq ie.size 1 && nq len r.length && rZ 0 len && zT len 1000)=true):eC T σ o=some {σ with sl:=bT σ.sl d (.own d),bl:=(d,⟨.mul,1,[r]⟩)::σ.bl}:=by
 have hM':pG T σ (some d) t len ps.toList=none:=by simp only[pG,hT,gQ,hM]
 simp only[eC,ho,hM',yf,hd,hT,gQ,hP,hb,hc]
theorem My {x y:Operand}{ts:Array TypeId}{n p m:Int}(ho:o.op=.call {callee:=.builtin .min,args:=#[x,y],argTypes:=ts})(hx:σ.get x=.int .i64 n)(hy:σ.get y=.int .i64 p)(hm:m=min n p):eC T σ o=some (σ.put o.dst (.int .i64 m)):=by
 subst hm;simp only[eC,ho,hx,hy]
theorem pZ {t t1:TypeId}{x y:Operand}{k kb:IntKind}{a b m:Int}(ho:o.op=.binOp .shr t x y t1)(hx:σ.get x=.int k a)(hy:σ.get y=.int kb b)(h0:0<=b)(h1:b<=(k.bits:Int))(hm:m=a.fdiv (2 ^ b.toNat)):eC T σ o=some (σ.put o.dst (.int k m)):=by
 subst hm;simp only[eC,ho,hx,hy,h0,h1,decide_true,abV]
theorem UA {t t1:TypeId}{x y:Operand}{k kb:IntKind}{a b m:Int}(ho:o.op=.binOp .shl t x y t1)(hx:σ.get x=.int k a)(hy:σ.get y=.int kb b)(h0:0<=b)(h1:b<=(k.bits:Int))(hm:m=k.wrap (a * 2 ^ b.toNat)):eC T σ o=some (σ.put o.dst (.int k m)):=by
 subst hm;simp only[eC,ho,hx,hy,h0,h1,decide_true,abV]
theorem Hz {t:TypeId}{x:Operand}{f:Nat}{fs:List (Nat × Nat)}{fl:Bool}{one:List Bool}{sz Af off sz2:Nat}{z cs:List PV}{c:PV}(ho:o.op=.field t x f)(hT:T t=some ⟨.struct fs fl one,sz,Af,z⟩)(hx:σ.get x=.agg cs)
  (h1:fs[f]? =some (off,sz2)) (h2:one[f]? =some true) (h3:cs[off]? =some c):eC T σ o=some (σ.put o.dst c):=by
 simp only[eC,ho,hT,hx,h1,h2,h3]
theorem BU {x y:Operand}{ts:Array TypeId}{n p m:Int}(ho:o.op=.call {callee:=.builtin .max,args:=#[x,y],argTypes:=ts})(hx:σ.get x=.int .i64 n)(hy:σ.get y=.int .i64 p)(hm:m=max n p):eC T σ o=some (σ.put o.dst (.int .i64 m)):=by
 subst hm;simp only[eC,ho,hx,hy]
theorem xi {t e:TypeId}{len d fI lX:Nat}{z0:List PV}{ie:TI}{ps:Array (Nat × Operand)}{rows r:List (List PV)}(ho:o.op=.buildSlice t len ps)(hd:o.dst=some d)(hT:T t=some ⟨.slice e,fI,lX,z0⟩)(gQ:T e=some ie)
  (hp:kR σ 0 ps.toList=some rows) (hb:av σ.bl d=none) (hc:(nq ie.size 1 && nq len rows.length && rZ 0 len && zT len 1000)=true) (hr:r=rows):
  eC T σ o=some {σ with sl:=bT σ.sl d (.own d),bl:=(d,⟨.arr,1,r⟩)::σ.bl}:=by
 subst hr;simp only[eC,ho,pG,hd,hT,gQ,hp,hb,hc]
theorem tQ {t:TypeId}{x lo hi:Operand}{fI lX:Nat}{z0:List PV}{s u:ByteArray}{k k':IntKind}{l h:Int}(ho:o.op=.slice t x (some lo) (some hi) none)(hT:T t=some ⟨.str,fI,lX,z0⟩)(hx:σ.get x=.str s)(hl:σ.get lo=.int k l)(hh:σ.get hi=.int k' h)
  (h0:0<=l) (h1:l<=h) (h2:h<=s.size) (hu:u=s.extract l.toNat h.toNat):eC T σ o=some (σ.put o.dst (.str u)):=by
 subst hu;simp only[eC,ho,hT,hx,hl,hh,h0,h1,h2,decide_true,abV]
theorem Dk {t:TypeId}{x hi:Operand}{fI lX:Nat}{z0:List PV}{s u:ByteArray}{k':IntKind}{h:Int}(ho:o.op=.slice t x none (some hi) none)(hT:T t=some ⟨.str,fI,lX,z0⟩)(hx:σ.get x=.str s)(hh:σ.get hi=.int k' h)
  (h1:0<=h) (h2:h<=s.size) (hu:u=s.extract 0 h.toNat):eC T σ o=some (σ.put o.dst (.str u)):=by
 subst hu;simp only[eC,ho,hT,hx,hh,h1,h2,decide_true,abV]
theorem Dl {t:TypeId}{x lo:Operand}{fI lX:Nat}{z0:List PV}{s u:ByteArray}{k:IntKind}{l:Int}(ho:o.op=.slice t x (some lo) none none)(hT:T t=some ⟨.str,fI,lX,z0⟩)(hx:σ.get x=.str s)(hl:σ.get lo=.int k l)
  (h1:0<=l) (h2:l<=s.size) (hu:u=s.extract l.toNat s.size):eC T σ o=some (σ.put o.dst (.str u)):=by
 subst hu;simp only[eC,ho,hT,hx,hl,h1,h2,decide_true,abV]
theorem lL {g:FuncId}{args az:List PV}{d:Nat}{r r':PV}(hg:o.guard=none)(hd:o.dst=some d)(hc:bZ σ o=some (g,args))(hv:fD σ.bl args=az)(hX:X g az r)
  (hf:fresh r\/iT args=true) (hr:froze r=r') (h:bN T X all l K (σ.put (some d) r')):bN T X all (o::l) K σ:=by
 subst hr;exact N4 hg hd hc hv hX hf h
theorem jM {t:TypeId}{x:Operand}{i:TI}{d a j sz:Nat}{rows:List (List PV)}{r:List PV}{v:PV}(ho:o.op=.load t x)(hT:T t=some i)(hx:σ.get x=.pt d a j)(hb:av σ.bl d=some ⟨.arr,sz,rows⟩)(hr:rows[a]? =some r)(hl:xa i (r.drop j)=some v):
  step T σ o=some (σ.put o.dst v):=by
 simp only[step,ho,ua,hT,hx,hb,hr,hl]
theorem UB {t e:TypeId}{x z:Operand}{fI lX:Nat}{z0:List PV}{ie:TI}{d sz:Nat}{rows:List (List PV)}{k:IntKind}{n:Int}(ho:o.op=.slice t x (some z) none none)(hT:T t=some ⟨.slice e,fI,lX,z0⟩)(gQ:T e=some ie)
  (hx:σ.get x=.own d) (hb:av σ.bl d=some ⟨.arr,sz,rows⟩) (hz:σ.get z=.int k n) (h0:0<=n) (h1:n<=rows.length) (hs:nq sz ie.size=true):step T σ o=some (σ.put o.dst .aa):=by
 simp only[step,ho,pT,hT,gQ,hx,hb,hz,h0,h1,hs,decide_true,ab5,abV]
theorem yl {d s sz:Nat}{rows dI:List (List PV)}(hb:av σ.bl d=some ⟨.arr,s,rows⟩)(hr:pc sz rows=dI):eS σ [.zY d sz]=some {σ with bl:=cg σ.bl d ⟨.arr,s,dI⟩}:=by
 subst hr
 simp only[eS,iH,hb]
theorem PH {d s:Nat}{rows dI:List (List PV)}(hb:av σ.bl d=some ⟨.arr,s,rows⟩)(hr:ar rows=dI):eS σ [.Mt d]=some {σ with bl:=cg σ.bl d ⟨.arr,s,dI⟩}:=by
 subst hr
 simp only[eS,iH,hb]
theorem Dm {t e:TypeId}{x ix:Operand}{a b:Nat}{c:List PV}{ie:TI}{d bsz m:Nat}{rows:List (List PV)}{k:IntKind}{n:Int}(ho:o.op=.indexAddr t x ix)(hT:T t=some ⟨.slice e,a,b,c⟩)(gQ:T e=some ie)
  (hx:σ.get x=.own d) (hix:σ.get ix=.int k n) (hb:av σ.bl d=some ⟨.arr,bsz,rows⟩) (hn:n=(m:Int)) (hl:rZ m rows.length=true) (hs:nq bsz ie.size=true):step T σ o=some (σ.put o.dst (.pt d m 0)):=by
 subst hn
 exact kO ho hT gQ hx hix hb (Int.natCast_nonneg m) (Int.ofNat_lt.2 (zU hl)) hs
theorem Gd {xs:List (List PV)}{sz:Nat}{α:Type}{f:α->List PV}{ys:List α}{y:α}{r:List PV}(h1:xs=aaN f ys)(h2:∀ z,(f z).map (fixC sz)=f z)(h3:r.map (fixC sz)=f y):pc sz (xs++[r])=aaN f (ys++[y]):=by
 subst h1
 unfold pc
 simp only[abQ,abL,List.map_nil,List.map_map,h3]
 congr 1
 exact List.map_congr_left λz _=>h2 z
theorem ml {t:TypeId}{x ix:Operand}{fI lX:Nat}{z0:List PV}{s:ByteArray}{k:IntKind}{n v:Int}(ho:o.op=.index t x ix)(hT:T t=some ⟨.str,fI,lX,z0⟩)(hx:σ.get x=.str s)(hix:σ.get ix=.int k n)(h0:0<=n)(hl:n < s.size)(hv:v=bc s n):step T σ o=some (σ.put o.dst (.int .u8 v)):=by
 subst hv
 simp only[step,ho,tO,hT,hx,hix,h0,hl,decide_true,abV]
theorem ij {t t' e:TypeId}{x y:Operand}{c:Go.Call}{fI lX:Nat}{z0:List PV}{ie:TI}{dd d sz:Nat}{rows news dI:List (List PV)}{aR:St}(ho:o.op=.call c)(hd:o.dst=some dd)(hc:c.callee=.builtin .append)(ha:c.args.toList=[x,y])(ht:c.argTypes.toList=[t,t'])(htt:nq t t'=true)
  (hT:T t=some ⟨.slice e,fI,lX,z0⟩) (gQ:T e=some ie) (hr:dI=rows++news) (hn:mX σ ie.size (σ.get y)=some (news,aR)) (hx:aR.get x=.own d) (hb:av aR.bl d=some ⟨.arr,sz,rows⟩) (hs:nq sz ie.size=true)
  (hl:(rows.length+news.length) * ie.bytes<=140737488355328) (hby:0 < ie.bytes) (hsz:0 < ie.size):step T σ o=some {sl:=bT (fp d aR.sl) dd (.own d),bl:=cg (fX d aR.bl) d ⟨.arr,sz,dI⟩,hd:=iS aR.hd d}:=by
 subst hr
 simp only[step,ho,hc,ha,ht,htt,cond_true,hd,pF,hT,gQ,hn,hx,hb,hs,hl,hby,hsz,decide_true,ab5,abV]
theorem cM {α:Type}{f:α->List PV}{a b:List (List PV)}{xs ys:List α}(h1:a=aaN f xs)(h2:b=aaN f ys):a++b=aaN f (xs++ys):=by
 rw[h1,h2,abQ]
theorem PI {t:TypeId}{x:Operand}{i:TI}{dd d a j sz:Nat}{rows:List (List PV)}{r:List PV}{s:Nat}{nrows:List (List PV)}(hg:o.guard=none)(h1:o.op=.load t x)(h2:o.dst=some dd)(h3:T t=some i)(h4:i.isAgg=false)(h5:σ.get x=.pt d a j)
  (h6:av σ.bl d=some ⟨.arr,sz,rows⟩) (h7:rows[a]? =some r) (h8:r[j]? =some (.ow s nrows)) (h9:av σ.bl dd=none)
  (h:∀ v dI,dI=rows.set a (bT r j (.raw v))->bN T X all l K {σ with sl:=bT σ.sl dd (.own dd),bl:=(dd,⟨.arr,s,nrows⟩)::cg σ.bl d ⟨.arr,sz,dI⟩,hd:=(dd,v)::σ.hd}):bN T X all (o::l) K σ:=
 Dn hg h1 h2 h3 h4 h5 h6 h7 h8 h9 λv=>h v _ rfl
theorem Mf {D d i j s sz:Nat}{nrows rows dI:List (List PV)}{v:Value}{r:List PV}{bo:St}(h1:av σ.bl D=some ⟨.arr,s,nrows⟩)(h2:hY σ.hd D=some v)(h3:av (σ.drop D).bl d=some ⟨.arr,sz,rows⟩)(h4:rows[i]? =some r)(h5:r[j]? =some (.raw v))(h6:D≠d)
  (hr:dI=rows.set i (bT r j (.ow s nrows))) (h7:{σ.drop D with bl:=cg (σ.drop D).bl d ⟨.arr,sz,dI⟩}=bo):eS σ [.back D d i j]=some bo:=by
 subst hr;subst h7;exact N5 h1 h2 h3 h4 h5 h6
theorem bY {tw:List Tw}{bo:St}{Q:St->Prop}(ht:eS σ tw=some bo)(h:Q bo):bN T X all [] (λaR=>∃ qt bo,eS aR qt=some bo/\Q bo) σ:=⟨tw,bo,ht,h⟩
theorem PJ {Q:St->Prop}(h:Q σ):bN T X all [] (λaR=>∃ qt bo,eS aR qt=some bo/\Q bo) σ:=⟨[],σ,rfl,h⟩
theorem ak {P:Program}{g:FuncId}{args az:List PV}{r:PV}(h:args=az)(hr:Real P g az r):Real P g args r:=h ▸ hr
theorem ym {j:Nat}{t:Tmp}{want:Bool}(hg:o.guard=some (j,want))(hd:ji all j=some t)(hb:bM σ.sl t=.bool want)(h:JY T X o (en T X all l K) σ):en T X all (o::l) K σ:=by
 simp only[en,hg,hd,hb]
 exact⟨λ_=>h,λh1=>by cases want<;>cases h1⟩
theorem R6 {j:Nat}{t:Tmp}{want:Bool}(hg:o.guard=some (j,want))(hd:ji all j=some t)(hb:bM σ.sl t=.bool want){aR:St}(hs:eC T σ o=some aR)(h:bN T X all l K aR):bN T X all (o::l) K σ:=
 vr hg hd hb (.inr (.inr (.inr (.inr (.inr (.inr (.inl ⟨aR,hs,h⟩)))))))
theorem PK {j:Nat}{t:Tmp}{want:Bool}(hg:o.guard=some (j,want))(hd:ji all j=some t)(hb:bM σ.sl t=.bool want)(hp:BP o=true){aR:St}(hs:eC T σ o=some aR)(h:en T X all l K aR):en T X all (o::l) K σ:=
 ym hg hd hb (.inr (.inl ⟨hp,aR,hs,h⟩))
theorem lD {j:Nat}{t:Tmp}{want:Bool}(hg:o.guard=some (j,want))(hd:ji all j=some t)(hb:bM σ.sl t=.bool want)(hc:bZ σ o=none)(hp:kp o=true)(hs:step T σ o=some aA)
 (h:en T X all l K aA):en T X all (o::l) K σ:=ym hg hd hb (um hc hp hs h)
theorem fE {j:Nat}{t:Tmp}{want:Bool}{g:FuncId}{args az:List PV}{d:Nat}{r:PV}(hg:o.guard=some (j,want))(hdj:ji all j=some t)(hb:bM σ.sl t=.bool want)(hd:o.dst=some d)
  (hc:bZ σ o=some (g,args)) (hv:fD σ.bl args=az) (hX:X g az r) (hf:fresh r\/iT args=true) (h:en T X all l K (σ.put (some d) (froze r))):en T X all (o::l) K σ:=by
 refine ym hg hdj hb (.inl ?_)
 unfold F5
 rw[hc,hd]
 exact⟨r,hv ▸ hX,hf,h⟩
end
theorem Kd :∀{l m:List PV},fP l m=true->dH l m=true->l=m
 | [],[],_,_=>rfl
 | c::l,d::m,hk,h=>by
  simp only[fP,dH,aaR] at hk h
  rw[Kd hk.2 h.2]
  congr 1
  cases c<;>cases d<;>simp[nR] at hk
  ·have e:=of_decide_eq_true hk.1;subst e
   have:=h.1;simp[kQ] at this;rw[this]
  ·have:=h.1;simp[kQ] at this;rw[this]
  have:=h.1;simp[kQ] at this;rw[Ke this]
 | [],_::_,h,_=>by cases h
 | _::_,[],h,_=>by cases h
theorem Ep :∀{l:List PV},fP l l=true->dH l l=true
 | [],_=>rfl
 | c::l,hk=>by
  simp only[fP,dH,aaR] at hk ⊢
  refine⟨?_,Ep hk.2⟩
  cases c<;>simp[nR] at hk<;>simp[kQ]
section
variable {A : ax} (hA : A = aj) {a b : Int} {s t : ByteArray} {x : Bool}
include hA
theorem aP (h:A.cmp .lss a b=true):a < b:=by subst hA;simpa [aj] using h
theorem aQ (h:A.cmp .lss a b=false):b<=a:=by subst hA;simpa [aj] using h
theorem JK (h:A.cmp .leq a b=true):a<=b:=by subst hA;simpa [aj] using h
theorem JL (h:A.cmp .leq a b=false):b < a:=by subst hA;simpa [aj] using h
theorem dJ (h:A.cmp .gtr a b=true):b < a:=by subst hA;simpa [aj] using h
theorem dL (h:A.cmp .gtr a b=false):a<=b:=by subst hA;simpa [aj] using h
theorem qy (h:A.cmp .geq a b=true):b<=a:=by subst hA;simpa [aj] using h
theorem qz (h:A.cmp .geq a b=false):a < b:=by subst hA;simpa [aj] using h
theorem eE (h:A.cmp .eql a b=true):a=b:=by subst hA;simpa [aj] using h
theorem eF (h:A.cmp .eql a b=false):a≠b:=by subst hA;simpa [aj] using h
theorem gp (h:A.cmp .neq a b=true):a≠b:=by subst hA;simpa [aj] using h
theorem gq (h:A.cmp .neq a b=false):a=b:=by subst hA;simpa [aj] using h
theorem pf (h:A.nZ .eql s t=true):s=t:=by subst hA;exact Ke (by simpa [aj] using h)
theorem oa (h:A.nZ .eql s t=false):s≠t:=by subst hA;intro e;subst e;simp[aj] at h
theorem mm (h:A.nZ .neq s t=true):s≠t:=by subst hA;intro e;subst e;simp[aj] at h
theorem na (h:A.nZ .neq s t=false):s=t:=by subst hA;exact Ke (by simpa [aj] using h)
theorem N6 {l m:List PV}(hk:fP l m=true)(h:A.sd l m=true):l=m:=by subst hA;exact Kd hk h
theorem N7 {l m:List PV}(hk:fP l m=true)(h:A.sd l m=false):l≠m:=by
 subst hA
 rintro rfl
 have:dH l l=true:=Ep hk
 have h:dH l l=false:=h
 rw[this] at h;cases h
theorem ck (h:A.eB x=true):x=false:=by subst hA;simpa [aj] using h
theorem cm (h:A.eB x=false):x=true:=by subst hA;simpa [aj] using h
theorem ab {α:Type}{f:α->List PV}{xs:List α}{r:List (List PV)}(h:r=xs.map f):A.ao r=(xs.length:Int):=by subst hA;subst h;simp[aj]
theorem aS (s:ByteArray):A.bA s=(s.size:Int):=by subst hA;rfl
theorem au (h1: -9223372036854775808<=a+b)(h2:a+b<=9223372036854775807):A.num .add .i64 a b=a+b:=by subst hA;exact Ge h1 h2
theorem dE (h1: -9223372036854775808<=a - b)(h2:a - b<=9223372036854775807):A.num .sub .i64 a b=a - b:=by subst hA;exact Ge h1 h2
end
theorem Dp {α:Type}{f:α->List PV}{ys zs:List α}{x y:α}{i:Nat}(hl:ys.length=i):((ys++x::zs).map f).set i (f y)=((ys++[y])++zs).map f:=by
 subst hl
 simp
theorem Dq {α:Type}{f:α->List PV}{ys zs:List α}{x:α}{i:Nat}(hl:ys.length=i):((ys++x::zs).map f)[i]? =some (f x):=by
 subst hl
 simp
theorem tR {α:Type}{l:List α}{i:Nat}{x:α}(h:l[i]? =some x):l.drop i=x::l.drop (i+1):=by
 obtain⟨h1,rfl⟩:=aaZ.1 h
 exact abK h1
theorem R7 {α:Type}{l:List α}{i:Nat}{x y:α}(h:l[i]? =some x):(l.set i y)[i]? =some y:=by
 rw[List.getElem?_set_self (aaZ.1 h).1]
theorem jN {α:Type}(f:α->List PV)(h:∀ x,cj (f x)=True):∀ xs:List α,ko (xs.map f)=True
 | []=>by simp only[List.map_nil,ko]
 | x::xs=>by simp only[abL,ko,h x,jN f h xs,and_self]
theorem PL {n w:Int}{k:Nat}{l:List Nat}(hw:w=n - k)(h:0<=w):chain n ([k]++l)=chain w l:=by
 rw[aca,jF,if_neg (by omega),hw]
theorem N8 {n w:Int}{k:Nat}{l:List Nat}(hw:w=n - k)(h:w < 0):chain n ([k]++l)= -1:=by
 rw[aca,jF,if_pos (by omega)]
theorem HA {n v:Int}{a l:List Nat}(hv:v=chain n a)(h:0<=v):chain n (a++l)=chain v l:=by
 rw[HB _ _ _ (hv ▸ h),hv]
theorem R9 {n v:Int}{a:List Nat}(hv:v=chain n a)(h:0<=n):v<=n/\ -1<=v:=by
 subst hv;exact⟨Kf _ _ (by omega),Kg _ _ (by omega)⟩
theorem PM {A:ax}(hA:A=aj){x y:ByteArray}(h:x=y):A.nZ .eql x y=true:=by
 cases hc:A.nZ .eql x y with
 | true=>rfl
 | false=>exact absurd h (oa hA hc)
theorem Kh {A:ax}(hA:A=aj){x y:ByteArray}(h:x=y):A.nZ .neq x y=false:=by
 cases hc:A.nZ .neq x y with
 | false=>rfl
 | true=>exact absurd h (mm hA hc)
section
variable {A : ax} {T : dA} {X : Spec} {all l l' : List Oper} {σ aA : St} {K : St -> Prop} {Q : AE -> St -> Prop}
abbrev RR :=List (List PV)
theorem nm {α:Sort _}(a:α):∃ r,r=a:=⟨a,rfl⟩
theorem gs {a b:Code}(h:fO T X a (λe aA=>match e with | .normal=>fO T X b Q aA | e=>Q e aA) σ):fO T X (.seq a b) Q σ:=h
theorem gr {id:Nat}{ops:Array Oper}(h:bN T X ops.toList ops.toList (Q .normal) σ):fO T X (.region id ops false) Q σ:=Ki h
theorem gB {id:Nat}{ops:Array Oper}(h:bN T X ops.toList ops.toList (λaR=>∃ qt bo,eS aR qt=some bo/\Q .normal bo) σ):fO T X (.region id ops false) Q σ:=UC h
theorem gk (h:Q .normal σ):fO T X .skip Q σ:=h
theorem ra (hA:A=aj)(n:Nat)(h:runK A T false all n l σ=some (l',aA))(ha:bN T X all l' K aA):bN T X all l K σ:=ry hA n l l' σ aA h ha
theorem rd (hA:A=aj)(n:Nat)(h:runK A T true all n l σ=some (l',aA))(ha:en T X all l' K aA):en T X all l K σ:=yn hA n l l' σ aA h ha
theorem od (h:K σ):bN T X all [] K σ:=h
theorem oz {Q:St->Prop}(h:Q σ):bN T X all [] (λaR=>∃ qt bo,eS aR qt=some bo/\Q bo) σ:=PJ h
theorem rn (hA:A=aj)(n:Nat)(ha:bN T X all l' K aA)(h:runK A T false all n l σ=some (l',aA):=by cbv):bN T X all l K σ:=ry hA n l l' σ aA h ha
theorem rz (hA:A=aj)(n:Nat)(ha:K aA)(h:runK A T false all n l σ=some ([],aA):=by cbv):bN T X all l K σ:=ry hA n l [] σ aA h ha
theorem bL (hA:A=aj)(n:Nat)(ha:en T X all l' K aA)(h:runK A T true all n l σ=some (l',aA):=by cbv):en T X all l K σ:=yn hA n l l' σ aA h ha
theorem dz (hA:A=aj)(n:Nat)(ha:K aA)(h:runK A T true all n l σ=some ([],aA):=by cbv):en T X all l K σ:=yn hA n l [] σ aA h ha
theorem gy (hA:A=aj)(n:Nat){id:Nat}{ops:Array Oper}(ha:Q .normal aA)(h:runK A T false ops.toList n ops.toList σ=some ([],aA):=by cbv):fO T X (.region id ops false) Q σ:=Ki (ry hA n _ [] σ aA h ha)
theorem gx (hA:A=aj)(n:Nat){id:Nat}{ops:Array Oper}{b:Code}(ha:fO T X b Q aA)(h:runK A T false ops.toList n ops.toList σ=some ([],aA):=by cbv):fO T X (.seq (.region id ops false) b) Q σ:=gs (Ki (ry hA n _ [] σ aA h ha))
theorem sP {R:Array Oper}{n:Nat}{L:List Bool}(h:mY T X R K n L aA)(ht:eS σ []=some aA:=by cbv):bN T X all [] (mY T X R K n L) σ:=uj [] ht rfl h
theorem rf {α:Sort _}{p:Prop}{x:α}(_:p):x=x:=rfl
theorem nf {p:Prop}(h:false=true):p:=by cases h
theorem cd {L:List Bool}{i n:Nat}(h0:fG L i=false)(hn:lx L=n+1)(hi:Nat.ble (i+1) L.length=true:=by exact rfl):lx (lK L i)=n:=Uy h0 (Nat.le_of_ble_eq_true hi) hn
theorem aq {R:Array Oper}{L:List Bool}{F:Nat->Oper->Prop}{i:Nat}{l ds:List Nat}{o:Oper}(h:fG L i=false->N2 L ds->F i o)(ht:iq R L F l)(ho:R[i]? =some o:=by exact rfl)(hd:BT o.after.toList=ds:=by exact rfl):iq R L F (i::l):=gX ho hd h ht
theorem an {R:Array Oper}{L:List Bool}{F:Nat->Oper->Prop}{i:Nat}{l:List Nat}(ht:iq R L F l)(ho:tt R L i=none:=by exact rfl):iq R L F (i::l):=Me ho ht
theorem gc {c:Operand}{x y:Code}{t:Bool}(h1:t=true->fO T X x Q σ)(h0:t=false->fO T X y Q σ)(hc:σ.get c=.bool t:=by exact rfl):fO T X (.cond c x y) Q σ:=UD hc h1 h0
theorem gt {α:Type}{f:Option α}{R:α->Prop}{vs:α}(k:R vs)(e:f=some vs:=by cbv):∃ vs,f=some vs/\R vs:=⟨vs,e,k⟩
theorem rt (h:Q .ret σ):fO T X .ret Q σ:=h
theorem ay {x:Bool}{p:Prop}(h:x=true)(h2:x=false):p:=by rw[h] at h2;cases h2
theorem cu {x:Bool}{p:Prop}(h:x=false)(h2:x=true):p:=by rw[h] at h2;cases h2
theorem gE {id:Nat}{P R:Prop}(h:P):(id=id->P)/\(id≠id->R):=⟨λ_=>h,λh=>absurd rfl h⟩
theorem nr (hA:A=aj){α:Type}(f:α->List PV)(xs:List α):∃ r,r=xs.map f/\A.ao r=(xs.length:Int):=⟨_,rfl,ab hA rfl⟩
theorem ga {α:Type}(xs:List α)(n:Int)(h:0<=n)(hl:n.toNat < xs.length):0<=n/\n.toNat < xs.length/\∃ x,xs[n.toNat]? =some x/\x∈xs:=⟨h,hl,_,aa7 hl,List.mem_of_getElem? (aa7 hl)⟩
section
variable {l : List Oper} {o : Oper} {aR : St} {R : Array Oper} {ts : List Tag} {t t' t0 e : TypeId} {x y ix : Operand} {a b d dd sz bsz fI lX : Nat} {c z0 : List PV} {ie : TI} {rows dI news : List (List PV)} {k : IntKind} {n m v : Int} {r : List PV} {s s1 s2 : ByteArray} {cl : Go.Call} {tg : Tag} {g : FuncId} {args az : List PV} {r0 r1 : PV} {j : Nat} {want : Bool} {D W Ks : List Nat}
theorem ee (hn:0<=n)(hr:rows[n.toNat]? =some r)(h:bN T X all l K (σ.put o.dst (.rd r)))(hg:o.guard=none:=by exact rfl)(hc:bZ σ o=none:=by exact rfl)(ho:o.op=.indexAddr t x ix:=by exact rfl)(hT:T t=some ⟨.slice e,a,b,c⟩:=by exact rfl)(gQ:T e=some ie:=by exact rfl)
 (hx:σ.get x=.sl sz rows:=by exact rfl) (hix:σ.get ix=.int k n:=by exact rfl) (hs:nq sz ie.size=true:=by exact rfl):bN T X all (o::l) K σ:=bO hg hc (jO ho hT gQ hx hix hn hs hr) h
theorem ob (hn:0<=n)(hr:rows[n.toNat]? =some r)(h:en T X all l K (σ.put o.dst (.rd r)))(hg:o.guard=none:=by exact rfl)(hc:bZ σ o=none:=by exact rfl)(hp:kp o=true:=by exact rfl)(ho:o.op=.indexAddr t x ix:=by exact rfl)(hT:T t=some ⟨.slice e,a,b,c⟩:=by exact rfl)(gQ:T e=some ie:=by exact rfl)
 (hx:σ.get x=.sl sz rows:=by exact rfl) (hix:σ.get ix=.int k n:=by exact rfl) (hs:nq sz ie.size=true:=by exact rfl):en T X all (o::l) K σ:=HC hg hc hp (jO ho hT gQ hx hix hn hs hr) h
theorem nH (hn:0<=n)(hl:n < rows.length)(h:bN T X all l K (σ.put o.dst (.pt d n.toNat 0)))(hg:o.guard=none:=by exact rfl)(hc:bZ σ o=none:=by exact rfl)(ho:o.op=.indexAddr t x ix:=by exact rfl)(hT:T t=some ⟨.slice e,a,b,c⟩:=by exact rfl)(gQ:T e=some ie:=by exact rfl)
 (hx:σ.get x=.own d:=by exact rfl) (hix:σ.get ix=.int k n:=by exact rfl) (hb:av σ.bl d=some ⟨.arr,bsz,rows⟩:=by exact rfl) (hs:nq bsz ie.size=true:=by exact rfl):bN T X all (o::l) K σ:=bO hg hc (kO ho hT gQ hx hix hb hn hl hs) h
theorem zg (hs:s=s1++s2)(hl:s1.size+s2.size<=140737488355328)(h:bN T X all l K (σ.put o.dst (.str s)))(hg:o.guard=none:=by exact rfl)(hc:bZ σ o=none:=by exact rfl)(ho:o.op=.binOp .add t x y t':=by exact rfl)(hx:σ.get x=.str s1:=by exact rfl)(hy:σ.get y=.str s2:=by exact rfl):bN T X all (o::l) K σ:=bO hg hc (tP ho hx hy hs hl) h
theorem nb (hs:s=s1++s2)(hl:s1.size+s2.size<=140737488355328)(h:en T X all l K (σ.put o.dst (.str s)))(hg:o.guard=none:=by exact rfl)(hc:bZ σ o=none:=by exact rfl)(hp:kp o=true:=by exact rfl)(ho:o.op=.binOp .add t x y t':=by exact rfl)(hx:σ.get x=.str s1:=by exact rfl)(hy:σ.get y=.str s2:=by exact rfl):en T X all (o::l) K σ:=HC hg hc hp (tP ho hx hy hs hl) h
theorem mA (hA:A=aj)(hv:A.num .add .i64 n m=v)(h:bN T X all l K (σ.put o.dst (.int .i64 v)))(hg:o.guard=none:=by exact rfl)(hc:bZ σ o=none:=by exact rfl)(ho:o.op=.binOp .add t x y t':=by exact rfl)(hx:σ.get x=.int .i64 n:=by exact rfl)(hy:σ.get y=.int .i64 m:=by exact rfl):bN T X all (o::l) K σ:=bO hg hc (Ux hA ho hx hy hv) h
theorem ju (hr:dI=rows++news)(h:bN T X all l K {sl:=bT (fp d aR.sl) dd (.own d),bl:=cg (fX d aR.bl) d ⟨.arr,sz,dI⟩,hd:=iS aR.hd d})(hg:o.guard=none:=by exact rfl)(hcc:bZ σ o=none:=by exact rfl)(ho:o.op=.call cl:=by exact rfl)(hd:o.dst=some dd:=by exact rfl)(hc:cl.callee=.builtin .append:=by exact rfl)(ha:cl.args.toList=[x,y]:=by exact rfl)(ht:cl.argTypes.toList=[t,t']:=by exact rfl)(htt:nq t t'=true:=by exact rfl)
 (hT:T t=some ⟨.slice e,fI,lX,z0⟩:=by exact rfl) (gQ:T e=some ie:=by exact rfl) (hn:mX σ ie.size (σ.get y)=some (news,aR):=by cbv) (hx:aR.get x=.own d:=by cbv) (hb:av aR.bl d=some ⟨.arr,sz,rows⟩:=by cbv) (hs:nq sz ie.size=true:=by exact rfl) (hl:(rows.length+news.length) * ie.bytes<=140737488355328) (hby:0 < ie.bytes:=by decide) (hsz:0 < ie.size:=by decide):bN T X all (o::l) K σ:=bO hg hcc (ij ho hd hc ha ht htt hT gQ hr hn hx hb hs hl hby hsz) h
theorem fC (hX:X g az r0)(hf:fresh r0\/iT args=true)(h:bN T X all l K (σ.bind d r0))(hg:o.guard=some (j,want):=by exact rfl)(hdj:ji all j=some t:=by exact rfl)(hb:bM σ.sl t=.bool want:=by exact rfl)(hd:o.dst=some d:=by exact rfl)
 (hc:bZ σ o=some (g,args):=by cbv) (hv:fD σ.bl args=az:=by cbv) (hfree:cV σ.bl (gH true d r0).2=true:=by cbv):bN T X all (o::l) K σ:=PN hg hdj hb hd hc hv hX hf hfree h
theorem eQ (hX:X g az r0)(hf:fresh r0\/iT args=true)(h:en T X all l K (σ.put (some d) (froze r0)))(hg:o.guard=none:=by exact rfl)(hd:o.dst=some d:=by exact rfl)(hc:bZ σ o=some (g,args):=by cbv)(hv:fD σ.bl args=az:=by cbv):en T X all (o::l) K σ:=N9 hg hd hc hv hX hf h
theorem CG (hX:X g az r0)(hf:fresh r0\/iT args=true)(h:ir T X R l (tg::ts) K (σ.put (some d) r1))(hg:nB R σ o=true:=by exact rfl)(hd:o.dst=some d:=by exact rfl)(hc:bZ σ o=some (g,args):=by cbv)(hv:fD σ.bl args=az:=by cbv)
 (hr:froze r0=r1:=by cbv) (hvs:qA σ.bl args=true:=by cbv) (ht:sF σ o (σ.put (some d) r1) (oI σ.bl args)=tg:=by cbv):ir T X R (o::l) ts K σ:=Oa hg hd hc hv hX hf h hr hvs ht
theorem nc (hX:X g az r0)(hf:fresh r0\/iT args=true)(h:ir T X R l (⟨[],W,Ks,[],false⟩::ts) K (σ.bind d r0))(hg:nB R σ o=true:=by exact rfl)(hd:o.dst=some d:=by exact rfl)(hc:bZ σ o=some (g,args):=by cbv)(hv:fD σ.bl args=az:=by cbv)
 (hfree:cV σ.bl (gH true d r0).2=true:=by cbv) (hvs:qA σ.bl args=true:=by cbv) (hW:vt (gH true d r0).2=W:=by cbv) (hK:oI σ.bl args++W=Ks:=by cbv):ir T X R (o::l) ts K σ:=Ob hg hd hc hv hX hf h hfree hvs hW hK
theorem cH (hA:A=aj)(n:Nat){l':List Oper}{sQ:List Tag}(ha:ir T X R l' sQ K aA)(h:Gf A T n l ts σ=some (l',sQ,aA):=by cbv):ir T X R l ts K σ:=Kj hA n l l' ts sQ σ aA h ha
end
end
end Go.Av
namespace Go.Av
open Go
set_option linter.unusedVariables false
theorem kV {P:Program}{n:FuncId}{bp:List PV}(a0:Bool)(h:Real P n bp (.bool a0)):∃ x0,x0=a0/\Real P n bp (.bool x0):=⟨_,rfl,h⟩
theorem xC {P:Program}{n:FuncId}{bp:List PV}{a0 a1 a2 a3 a4 a5:Int}{a6 a7 a8:ByteArray}{a9:Bool}(h:Real P n bp (.aw [.agg [.ii a0,.ii a1,.ii a2,.ii a3,.ii a4,.ii a5,.str a6,.str a7,.str a8],.bool a9])):∃ x0 x1 x2 x3 x4 x5 x6 x7 x8 x9,x0=a0/\x1=a1/\x2=a2/\x3=a3/\x4=a4/\x5=a5/\x6=a6/\x7=a7/\x8=a8/\x9=a9/\Real P n bp (.aw [.agg [.ii x0,.ii x1,.ii x2,.ii x3,.ii x4,.ii x5,.str x6,.str x7,.str x8],.bool x9]):=⟨_,_,_,_,_,_,_,_,_,_,rfl,rfl,rfl,rfl,rfl,rfl,rfl,rfl,rfl,rfl,h⟩
theorem ib {P:Program}{n:FuncId}{bp:List PV}{a0:Bool}(h:Real P n bp (.bool a0)):∃ x0,x0=a0/\Real P n bp (.bool x0):=⟨_,rfl,h⟩
theorem tb {P:Program}{n:FuncId}{bp:List PV}{a0:Int}(h:Real P n bp (.ii a0)):∃ x0,x0=a0/\Real P n bp (.ii x0):=⟨_,rfl,h⟩
theorem JS {P:Program}{n:FuncId}{k1:Nat}(bp:List PV)(a0:RR)(h:Real P n bp (.ow k1 a0)):∃ x0,x0=a0/\Real P n bp (.ow k1 x0):=⟨_,rfl,h⟩
theorem rn6 {P:Program}{n:FuncId}{bp:List PV}{a0 a1 a2 a3 a4 a5:Int}{a6 a7 a8:ByteArray}(h:Real P n bp (.agg [.ii a0,.ii a1,.ii a2,.ii a3,.ii a4,.ii a5,.str a6,.str a7,.str a8])):∃ x0 x1 x2 x3 x4 x5 x6 x7 x8,x0=a0/\x1=a1/\x2=a2/\x3=a3/\x4=a4/\x5=a5/\x6=a6/\x7=a7/\x8=a8/\Real P n bp (.agg [.ii x0,.ii x1,.ii x2,.ii x3,.ii x4,.ii x5,.str x6,.str x7,.str x8]):=⟨_,_,_,_,_,_,_,_,_,rfl,rfl,rfl,rfl,rfl,rfl,rfl,rfl,rfl,h⟩
theorem xq {P:Program}{n:FuncId}{k1:Nat}{bp:List PV}{a0:RR}(h:Real P n bp (.ow k1 a0)):∃ x0,x0=a0/\Real P n bp (.ow k1 x0):=⟨_,rfl,h⟩
theorem yI {P:Program}{n:FuncId}{k1 k3:Nat}{bp:List PV}(a0 a2:RR)(h:Real P n bp (.agg [.ow k1 a0,.ow k3 a2])):∃ x0 x1,x0=a0/\x1=a2/\Real P n bp (.agg [.ow k1 x0,.ow k3 x1]):=⟨_,_,rfl,rfl,h⟩
theorem K7 {P:Program}{n:FuncId}{k1 k3 k6:Nat}{bp:List PV}(a0 a2 a5:RR)(c4 c7 c8 c9 cB:Int)(h:Real P n bp (.agg [.ow k1 a0,.ow k3 a2,.ii c4,.ow k6 a5,.ii c7,.ii c8,.ii c9,.ii cB])):∃ x0 x1 x2,x0=a0/\x1=a2/\x2=a5/\Real P n bp (.agg [.ow k1 x0,.ow k3 x1,.ii c4,.ow k6 x2,.ii c7,.ii c8,.ii c9,.ii cB]):=⟨_,_,_,rfl,rfl,rfl,h⟩
theorem T1 {P:Program}{n:FuncId}{bp:List PV}(a1:Bool)(c0:Int)(h:Real P n bp (.aw [.ii c0,.bool a1])):∃ x0,x0=a1/\Real P n bp (.aw [.ii c0,.bool x0]):=⟨_,rfl,h⟩
theorem Zg {P:Program}{n:FuncId}{k5:Nat}{bp:List PV}(a0:Int)(a1 a2:ByteArray)(a3:Int)(a4:RR)(h:Real P n bp (.agg [.ii a0,.str a1,.str a2,.ii a3,.ow k5 a4])):∃ x0 x1 x2 x3 x4,x0=a0/\x1=a1/\x2=a2/\x3=a3/\x4=a4/\Real P n bp (.agg [.ii x0,.str x1,.str x2,.ii x3,.ow k5 x4]):=⟨_,_,_,_,_,rfl,rfl,rfl,rfl,rfl,h⟩
theorem qL {P:Program}{n:FuncId}{k1:Nat}{bp:List PV}(a0:RR)(h:Real P n bp (.ow k1 a0)):∃ x0,x0=a0/\Real P n bp (.ow k1 x0):=⟨_,rfl,h⟩
theorem AW {P:Program}{n:FuncId}{k1:Nat}(bp:List PV)(a0:RR)(h:Real P n bp (.agg [.ow k1 a0])):∃ x0,x0=a0/\Real P n bp (.agg [.ow k1 x0]):=⟨_,rfl,h⟩
theorem OZ {P:Program}{n:FuncId}{bp:List PV}{a0:Int}(h:Real P n bp (.int .u32 a0)):∃ x0,x0=a0/\Real P n bp (.int .u32 x0):=⟨_,rfl,h⟩
theorem fe {P:Program}{n:FuncId}{bp:List PV}{a0:ByteArray}(h:Real P n bp (.str a0)):∃ x0,x0=a0/\Real P n bp (.str x0):=⟨_,rfl,h⟩
theorem W9 {P:Program}{n:FuncId}{bp:List PV}{a0:ByteArray}{a1:Bool}(h:Real P n bp (.aw [.str a0,.bool a1])):∃ x0 x1,x0=a0/\x1=a1/\Real P n bp (.aw [.str x0,.bool x1]):=⟨_,_,rfl,rfl,h⟩
theorem JU {P:Program}{n:FuncId}{bp:List PV}(a0:ByteArray)(a1:Bool)(h:Real P n bp (.aw [.str a0,.bool a1])):∃ x0 x1,x0=a0/\x1=a1/\Real P n bp (.aw [.str x0,.bool x1]):=⟨_,_,rfl,rfl,h⟩
theorem qY {P:Program}{n:FuncId}{bp:List PV}(a0:ByteArray)(c1:Bool)(h:Real P n bp (.aw [.str a0,.bool c1])):∃ x0,x0=a0/\Real P n bp (.aw [.str x0,.bool c1]):=⟨_,rfl,h⟩
theorem uZ {P:Program}{n:FuncId}{k1 k3:Nat}(bp:List PV)(a0 a2:RR)(c4:Bool)(h:Real P n bp (.aw [.agg [.ow k1 a0,.ow k3 a2],.bool c4])):∃ x0 x1,x0=a0/\x1=a2/\Real P n bp (.aw [.agg [.ow k1 x0,.ow k3 x1],.bool c4]):=⟨_,_,rfl,rfl,h⟩
theorem FA {P:Program}{n:FuncId}{k1 k3:Nat}{bp:List PV}(a0 a2:RR)(c4:Bool)(h:Real P n bp (.aw [.agg [.ow k1 a0,.ow k3 a2],.bool c4])):∃ x0 x1,x0=a0/\x1=a2/\Real P n bp (.aw [.agg [.ow k1 x0,.ow k3 x1],.bool c4]):=⟨_,_,rfl,rfl,h⟩
theorem G9 {P:Program}{n:FuncId}{c2:Bool}{bp:List PV}{a0 a1:Int}(h:Real P n bp (.aw [.ii a0,.ii a1,.bool c2])):∃ x0 x1,x0=a0/\x1=a1/\Real P n bp (.aw [.ii x0,.ii x1,.bool c2]):=⟨_,_,rfl,rfl,h⟩
theorem yY {P:Program}{n:FuncId}{c0 a1:Int}{c2:Bool}{bp:List PV}(h:Real P n bp (.aw [.ii c0,.ii a1,.bool c2])):∃ x0,x0=a1/\Real P n bp (.aw [.ii c0,.ii x0,.bool c2]):=⟨_,rfl,h⟩
theorem Ha {P:Program}{n:FuncId}{c0:ByteArray}{c2:Bool}{bp:List PV}{a1:Int}(h:Real P n bp (.aw [.str c0,.ii a1,.bool c2])):∃ x0,x0=a1/\Real P n bp (.aw [.str c0,.ii x0,.bool c2]):=⟨_,rfl,h⟩
theorem Xx {P:Program}{n:FuncId}{c2:Bool}{bp:List PV}{a0:ByteArray}{a1:Int}(h:Real P n bp (.aw [.str a0,.ii a1,.bool c2])):∃ x0 x1,x0=a0/\x1=a1/\Real P n bp (.aw [.str x0,.ii x1,.bool c2]):=⟨_,_,rfl,rfl,h⟩
theorem Ue {P:Program}{n:FuncId}{bp:List PV}(a3 c0 c1:Int)(c2:ByteArray)(c4:Bool)(h:Real P n bp (.aw [.agg [.ii c0,.ii c1,.str c2],.ii a3,.bool c4])):∃ x0,x0=a3/\Real P n bp (.aw [.agg [.ii c0,.ii c1,.str c2],.ii x0,.bool c4]):=⟨_,rfl,h⟩
theorem XC {P:Program}{n:FuncId}{c4:Bool}{bp:List PV}{a0 a1 a3:Int}{a2:ByteArray}(h:Real P n bp (.aw [.agg [.ii a0,.ii a1,.str a2],.ii a3,.bool c4])):∃ x0 x1 x2 x3,x0=a0/\x1=a1/\x2=a2/\x3=a3/\Real P n bp (.aw [.agg [.ii x0,.ii x1,.str x2],.ii x3,.bool c4]):=⟨_,_,_,_,rfl,rfl,rfl,rfl,h⟩
theorem JV {P:Program}{n:FuncId}{bp:List PV}(a0:ByteArray)(h:Real P n bp (.str a0)):∃ x0,x0=a0/\Real P n bp (.str x0):=⟨_,rfl,h⟩
theorem Uf {P:Program}{n:FuncId}{bp:List PV}(a0 a1:Int)(a2:ByteArray)(a3:Int)(c4:Bool)(h:Real P n bp (.aw [.agg [.ii a0,.ii a1,.str a2],.ii a3,.bool c4])):∃ x0 x1 x2 x3,x0=a0/\x1=a1/\x2=a2/\x3=a3/\Real P n bp (.aw [.agg [.ii x0,.ii x1,.str x2],.ii x3,.bool c4]):=⟨_,_,_,_,rfl,rfl,rfl,rfl,h⟩
theorem yZ {P:Program}{n:FuncId}{bp:List PV}(a0:Int)(h:Real P n bp (.ii a0)):∃ x0,x0=a0/\Real P n bp (.ii x0):=⟨_,rfl,h⟩
theorem O9 {P:Program}{n:FuncId}{k1:Nat}{bp:List PV}(a0:RR)(a2:Int)(h:Real P n bp (.aw [.ow k1 a0,.ii a2])):∃ x0 x1,x0=a0/\x1=a2/\Real P n bp (.aw [.ow k1 x0,.ii x1]):=⟨_,_,rfl,rfl,h⟩
theorem Pc {P:Program}{n:FuncId}{c0:ByteArray}{c2:Bool}{c3 a1:Int}{bp Rk:List PV}(h:jA P n bp Rk [.str c0,.ii a1,.bool c2] (.ii c3)):∃ x0,x0=a1/\jA P n bp Rk [.str c0,.ii x0,.bool c2] (.ii c3):=⟨_,rfl,h⟩
theorem SZ {P:Program}{n:FuncId}{c0 c3:ByteArray}{c2:Bool}{bp Rk:List PV}{a1:Int}(h:jA P n bp Rk [.str c0,.ii a1,.bool c2] (.str c3)):∃ x0,x0=a1/\jA P n bp Rk [.str c0,.ii x0,.bool c2] (.str c3):=⟨_,rfl,h⟩
theorem ZI {P:Program}{n:FuncId}{k1:Nat}{bp:List PV}(a0:RR)(a2:Int)(h:Real P n bp (.aw [.sl k1 a0,.ii a2])):∃ x0 x1,x0=a0/\x1=a2/\Real P n bp (.aw [.sl k1 x0,.ii x1]):=⟨_,_,rfl,rfl,h⟩
theorem OM {P:Program}{n:FuncId}{k5:Nat}{bp:List PV}(a4:RR)(c0:Int)(c1 c2:ByteArray)(c3:Int)(h:Real P n bp (.agg [.ii c0,.str c1,.str c2,.ii c3,.ow k5 a4])):∃ x0,x0=a4/\Real P n bp (.agg [.ii c0,.str c1,.str c2,.ii c3,.ow k5 x0]):=⟨_,rfl,h⟩
theorem ON {P:Program}{n:FuncId}{k5:Nat}{bp:List PV}(a0:Int)(a1 a2:ByteArray)(a3:Int)(a4:RR)(a6:Bool)(h:Real P n bp (.aw [.agg [.ii a0,.str a1,.str a2,.ii a3,.ow k5 a4],.bool a6])):∃ x0 x1 x2 x3 x4 x5,x0=a0/\x1=a1/\x2=a2/\x3=a3/\x4=a4/\x5=a6/\Real P n bp (.aw [.agg [.ii x0,.str x1,.str x2,.ii x3,.ow k5 x4],.bool x5]):=⟨_,_,_,_,_,_,rfl,rfl,rfl,rfl,rfl,rfl,h⟩
theorem tE {P:Program}{n:FuncId}{k1:Nat}{bp:List PV}(a0:RR)(h:Real P n bp (.agg [.ow k1 a0])):∃ x0,x0=a0/\Real P n bp (.agg [.ow k1 x0]):=⟨_,rfl,h⟩
theorem Y4 {P:Program}{n:FuncId}{k1:Nat}{bp:List PV}(a0:RR)(a2:Bool)(h:Real P n bp (.aw [.ow k1 a0,.bool a2])):∃ x0 x1,x0=a0/\x1=a2/\Real P n bp (.aw [.ow k1 x0,.bool x1]):=⟨_,_,rfl,rfl,h⟩
theorem Y6 {P:Program}{n:FuncId}{k1:Nat}{bp:List PV}(a0:RR)(c2:Bool)(h:Real P n bp (.aw [.ow k1 a0,.bool c2])):∃ x0,x0=a0/\Real P n bp (.aw [.ow k1 x0,.bool c2]):=⟨_,rfl,h⟩
theorem ZJ {P:Program}{n:FuncId}{k4:Nat}{bp:List PV}(a3:RR)(c0 c1 c2:Int)(h:Real P n bp (.agg [.ii c0,.ii c1,.ii c2,.ow k4 a3])):∃ x0,x0=a3/\Real P n bp (.agg [.ii c0,.ii c1,.ii c2,.ow k4 x0]):=⟨_,rfl,h⟩
theorem S0 {P:Program}{n:FuncId}{c1:Bool}{bp:List PV}{a0:ByteArray}(h:Real P n bp (.aw [.str a0,.bool c1])):∃ x0,x0=a0/\Real P n bp (.aw [.str x0,.bool c1]):=⟨_,rfl,h⟩
theorem xT {P:Program}{n:FuncId}{k1 k3:Nat}(bp:List PV)(a0 a2:RR)(h:Real P n bp (.agg [.ow k1 a0,.ow k3 a2])):∃ x0 x1,x0=a0/\x1=a2/\Real P n bp (.agg [.ow k1 x0,.ow k3 x1]):=⟨_,_,rfl,rfl,h⟩
theorem XY {P:Program}{n:FuncId}{k1 k3:Nat}{c4:Bool}{bp:List PV}{a0 a2:RR}(h:Real P n bp (.aw [.agg [.ow k1 a0,.ow k3 a2],.bool c4])):∃ x0 x1,x0=a0/\x1=a2/\Real P n bp (.aw [.agg [.ow k1 x0,.ow k3 x1],.bool c4]):=⟨_,_,rfl,rfl,h⟩
theorem XZ {P:Program}{n:FuncId}{k1 k3 k6:Nat}(bp:List PV)(a0 a2 a5:RR)(a7 a8 a9 oC c4:Int)(cf:Bool)(h:Real P n bp (.aw [.agg [.ow k1 a0,.ow k3 a2,.ii c4,.ow k6 a5,.ii a7,.ii a8,.ii a9,.ii oC],.bool cf])):∃ x0 x1 x2 x3 x4 x5 x6,x0=a0/\x1=a2/\x2=a5/\x3=a7/\x4=a8/\x5=a9/\x6=oC/\Real P n bp (.aw [.agg [.ow k1 x0,.ow k3 x1,.ii c4,.ow k6 x2,.ii x3,.ii x4,.ii x5,.ii x6],.bool cf]):=⟨_,_,_,_,_,_,_,rfl,rfl,rfl,rfl,rfl,rfl,rfl,h⟩
theorem X0 {P:Program}{n:FuncId}{k5:Nat}(bp:List PV)(a0 a1 a2 a3:Int)(a4:RR)(h:Real P n bp (.agg [.ii a0,.ii a1,.ii a2,.ii a3,.ow k5 a4])):∃ x0 x1 x2 x3 x4,x0=a0/\x1=a1/\x2=a2/\x3=a3/\x4=a4/\Real P n bp (.agg [.ii x0,.ii x1,.ii x2,.ii x3,.ow k5 x4]):=⟨_,_,_,_,_,rfl,rfl,rfl,rfl,rfl,h⟩
theorem Ui {P:Program}{n:FuncId}{k4:Nat}{bp:List PV}(a0 a1 a2:Int)(a3:RR)(h:Real P n bp (.agg [.ii a0,.ii a1,.ii a2,.sl k4 a3])):∃ x0 x1 x2 x3,x0=a0/\x1=a1/\x2=a2/\x3=a3/\Real P n bp (.agg [.ii x0,.ii x1,.ii x2,.sl k4 x3]):=⟨_,_,_,_,rfl,rfl,rfl,rfl,h⟩
theorem Uj {P:Program}{n:FuncId}{bp:List PV}(a0:Int)(a2:ByteArray)(c1:Int)(c3:Bool)(h:Real P n bp (.aw [.agg [.ii a0,.ii c1,.str a2],.bool c3])):∃ x0 x1,x0=a0/\x1=a2/\Real P n bp (.aw [.agg [.ii x0,.ii c1,.str x1],.bool c3]):=⟨_,_,rfl,rfl,h⟩
theorem Uk {P:Program}{n:FuncId}{k1 k3 k6:Nat}{bp:List PV}(a0 a2:RR)(a4:Int)(a5:RR)(a7 a8 a9 oC:Int)(cf:Bool)(h:Real P n bp (.aw [.agg [.ow k1 a0,.ow k3 a2,.ii a4,.ow k6 a5,.ii a7,.ii a8,.ii a9,.ii oC],.bool cf])):∃ x0 x1 x2 x3 x4 x5 x6 x7,x0=a0/\x1=a2/\x2=a4/\x3=a5/\x4=a7/\x5=a8/\x6=a9/\x7=oC/\Real P n bp (.aw [.agg [.ow k1 x0,.ow k3 x1,.ii x2,.ow k6 x3,.ii x4,.ii x5,.ii x6,.ii x7],.bool cf]):=⟨_,_,_,_,_,_,_,_,rfl,rfl,rfl,rfl,rfl,rfl,rfl,rfl,h⟩
theorem X1 {P:Program}{n:FuncId}{k1 k3 k6:Nat}(bp:List PV)(a0 a2 a5:RR)(a7 a9 c4 c8 cB:Int)(h:Real P n bp (.agg [.ow k1 a0,.ow k3 a2,.ii c4,.ow k6 a5,.ii a7,.ii c8,.ii a9,.ii cB])):∃ x0 x1 x2 x3 x4,x0=a0/\x1=a2/\x2=a5/\x3=a7/\x4=a9/\Real P n bp (.agg [.ow k1 x0,.ow k3 x1,.ii c4,.ow k6 x2,.ii x3,.ii c8,.ii x4,.ii cB]):=⟨_,_,_,_,_,rfl,rfl,rfl,rfl,rfl,h⟩
theorem tM {P:Program}{n:FuncId}{k1 k3 k6 oD:Nat}{bp:List PV}(a0 a2 a5 mO:RR)(c4 c7 c8 c9 cB:Int)(h:Real P n bp (.agg [.ow k1 a0,.ow k3 a2,.ii c4,.ow k6 a5,.ii c7,.ii c8,.ii c9,.ii cB,.ow oD mO])):∃ x0 x1 x2 x3,x0=a0/\x1=a2/\x2=a5/\x3=mO/\Real P n bp (.agg [.ow k1 x0,.ow k3 x1,.ii c4,.ow k6 x2,.ii c7,.ii c8,.ii c9,.ii cB,.ow oD x3]):=⟨_,_,_,_,rfl,rfl,rfl,rfl,h⟩
theorem X2 {P:Program}{n:FuncId}{c3:Bool}{bp:List PV}{a0 a1:Int}{a2:ByteArray}(h:Real P n bp (.aw [.agg [.ii a0,.ii a1,.str a2],.bool c3])):∃ x0 x1 x2,x0=a0/\x1=a1/\x2=a2/\Real P n bp (.aw [.agg [.ii x0,.ii x1,.str x2],.bool c3]):=⟨_,_,_,rfl,rfl,rfl,h⟩
theorem ZK {P:Program}{n:FuncId}{k1 k3:Nat}{bp:List PV}(a0 a2:RR)(a4:Bool)(h:Real P n bp (.aw [.sl k1 a0,.agg [.ow k3 a2],.bool a4])):∃ x0 x1 x2,x0=a0/\x1=a2/\x2=a4/\Real P n bp (.aw [.sl k1 x0,.agg [.ow k3 x1],.bool x2]):=⟨_,_,_,rfl,rfl,rfl,h⟩
theorem Rl {P:Program}{n:FuncId}{k1:Nat}(bp:List PV)(a0:RR)(a2:Bool)(h:Real P n bp (.aw [.sl k1 a0,.bool a2])):∃ x0 x1,x0=a0/\x1=a2/\Real P n bp (.aw [.sl k1 x0,.bool x1]):=⟨_,_,rfl,rfl,h⟩
theorem X3 {P:Program}{n:FuncId}{k1 k3 k6 oD:Nat}(bp:List PV)(a0 a2 a5 mO:RR)(c4 c7 c8 c9 cB:Int)(h:Real P n bp (.agg [.ow k1 a0,.ow k3 a2,.ii c4,.ow k6 a5,.ii c7,.ii c8,.ii c9,.ii cB,.ow oD mO])):∃ x0 x1 x2 x3,x0=a0/\x1=a2/\x2=a5/\x3=mO/\Real P n bp (.agg [.ow k1 x0,.ow k3 x1,.ii c4,.ow k6 x2,.ii c7,.ii c8,.ii c9,.ii cB,.ow oD x3]):=⟨_,_,_,_,rfl,rfl,rfl,rfl,h⟩
theorem FB {P:Program}{n:FuncId}{k1 k3 k6 oD:Nat}(bp:List PV)(a0 a2:RR)(a4:Int)(a5:RR)(a7 a8 a9 oC:Int)(mO:RR)(wB:Int)(h:Real P n bp (.aw [.agg [.ow k1 a0,.ow k3 a2,.ii a4,.ow k6 a5,.ii a7,.ii a8,.ii a9,.ii oC,.ow oD mO],.ii wB])):∃ x0 x1 x2 x3 x4 x5 x6 x7 x8 x9,x0=a0/\x1=a2/\x2=a4/\x3=a5/\x4=a7/\x5=a8/\x6=a9/\x7=oC/\x8=mO/\x9=wB/\Real P n bp (.aw [.agg [.ow k1 x0,.ow k3 x1,.ii x2,.ow k6 x3,.ii x4,.ii x5,.ii x6,.ii x7,.ow oD x8],.ii x9]):=⟨_,_,_,_,_,_,_,_,_,_,rfl,rfl,rfl,rfl,rfl,rfl,rfl,rfl,rfl,rfl,h⟩
theorem Rm {P:Program}{n:FuncId}{k5:Nat}(bp:List PV)(a0:Int)(a1 a2:ByteArray)(a3:Int)(a4:RR)(a6:Bool)(h:Real P n bp (.aw [.agg [.ii a0,.str a1,.str a2,.ii a3,.ow k5 a4],.bool a6])):∃ x0 x1 x2 x3 x4 x5,x0=a0/\x1=a1/\x2=a2/\x3=a3/\x4=a4/\x5=a6/\Real P n bp (.aw [.agg [.ii x0,.str x1,.str x2,.ii x3,.ow k5 x4],.bool x5]):=⟨_,_,_,_,_,_,rfl,rfl,rfl,rfl,rfl,rfl,h⟩
theorem Ul {P:Program}{n:FuncId}{k1 k3 k6 oD:Nat}{bp:List PV}(a0 a2:RR)(a4:Int)(a5:RR)(a7 a8 a9 oC:Int)(mO:RR)(wB:Int)(h:Real P n bp (.aw [.agg [.ow k1 a0,.ow k3 a2,.ii a4,.ow k6 a5,.ii a7,.ii a8,.ii a9,.ii oC,.ow oD mO],.ii wB])):∃ x0 x1 x2 x3 x4 x5 x6 x7 x8 x9,x0=a0/\x1=a2/\x2=a4/\x3=a5/\x4=a7/\x5=a8/\x6=a9/\x7=oC/\x8=mO/\x9=wB/\Real P n bp (.aw [.agg [.ow k1 x0,.ow k3 x1,.ii x2,.ow k6 x3,.ii x4,.ii x5,.ii x6,.ii x7,.ow oD x8],.ii x9]):=⟨_,_,_,_,_,_,_,_,_,_,rfl,rfl,rfl,rfl,rfl,rfl,rfl,rfl,rfl,rfl,h⟩
theorem ZL {P:Program}{n:FuncId}{k1 k3 k6 oD:Nat}{bp:List PV}(a0 a2 a5 mO:RR)(c4 c7 c8 c9 cB:Int)(h:Real P n bp (.agg [.sl k1 a0,.sl k3 a2,.ii c4,.sl k6 a5,.ii c7,.ii c8,.ii c9,.ii cB,.sl oD mO])):∃ x0 x1 x2 x3,x0=a0/\x1=a2/\x2=a5/\x3=mO/\Real P n bp (.agg [.sl k1 x0,.sl k3 x1,.ii c4,.sl k6 x2,.ii c7,.ii c8,.ii c9,.ii cB,.sl oD x3]):=⟨_,_,_,_,rfl,rfl,rfl,rfl,h⟩
theorem X4 {P:Program}{n:FuncId}{k1 k3 k6:Nat}{bp:List PV}{a0 a2 a5:RR}{a4 a7 a8 a9 oC:Int}{mO:Bool}(h:Real P n bp (.aw [.agg [.ow k1 a0,.ow k3 a2,.ii a4,.ow k6 a5,.ii a7,.ii a8,.ii a9,.ii oC],.bool mO])):∃ x0 x1 x2 x3 x4 x5 x6 x7 x8,x0=a0/\x1=a2/\x2=a4/\x3=a5/\x4=a7/\x5=a8/\x6=a9/\x7=oC/\x8=mO/\Real P n bp (.aw [.agg [.ow k1 x0,.ow k3 x1,.ii x2,.ow k6 x3,.ii x4,.ii x5,.ii x6,.ii x7],.bool x8]):=⟨_,_,_,_,_,_,_,_,_,rfl,rfl,rfl,rfl,rfl,rfl,rfl,rfl,rfl,h⟩
theorem X5 {P:Program}{n:FuncId}{k1 k3 k6 oD:Nat}{bp:List PV}{a0 a2 a5 mO:RR}{a4 a7 a8 a9 oC:Int}{wB:Bool}(h:Real P n bp (.aw [.agg [.ow k1 a0,.ow k3 a2,.ii a4,.ow k6 a5,.ii a7,.ii a8,.ii a9,.ii oC,.ow oD mO],.bool wB])):∃ x0 x1 x2 x3 x4 x5 x6 x7 x8 x9,x0=a0/\x1=a2/\x2=a4/\x3=a5/\x4=a7/\x5=a8/\x6=a9/\x7=oC/\x8=mO/\x9=wB/\Real P n bp (.aw [.agg [.ow k1 x0,.ow k3 x1,.ii x2,.ow k6 x3,.ii x4,.ii x5,.ii x6,.ii x7,.ow oD x8],.bool x9]):=⟨_,_,_,_,_,_,_,_,_,_,rfl,rfl,rfl,rfl,rfl,rfl,rfl,rfl,rfl,rfl,h⟩
theorem uQ {P:Program}{n:FuncId}{k1:Nat}(bp:List PV)(a0:RR)(a3 c2:Int)(h:fo P n bp [.ow k1 a0,.ii c2] (.ii a3)):∃ x0 x1,x0=a0/\x1=a3/\fo P n bp [.ow k1 x0,.ii c2] (.ii x1):=⟨_,_,rfl,rfl,h⟩
theorem WD {P:Program}{n:FuncId}{k1 k3 k6 oD Rn:Nat}(bp:List PV)(a0 a2:RR)(a4:Int)(a5:RR)(a7 a8 a9 oC:Int)(mO wB:RR)(a15:Bool)(h:Real P n bp (.aw [.agg [.ow k1 a0,.ow k3 a2,.ii a4,.ow k6 a5,.ii a7,.ii a8,.ii a9,.ii oC,.ow oD mO,.ow Rn wB],.bool a15])):∃ x0 x1 x2 x3 x4 x5 x6 x7 x8 x9 Uh,x0=a0/\x1=a2/\x2=a4/\x3=a5/\x4=a7/\x5=a8/\x6=a9/\x7=oC/\x8=mO/\x9=wB/\Uh=a15/\Real P n bp (.aw [.agg [.ow k1 x0,.ow k3 x1,.ii x2,.ow k6 x3,.ii x4,.ii x5,.ii x6,.ii x7,.ow oD x8,.ow Rn x9],.bool Uh]):=⟨_,_,_,_,_,_,_,_,_,_,_,rfl,rfl,rfl,rfl,rfl,rfl,rfl,rfl,rfl,rfl,rfl,h⟩
theorem QO {P:Program}{n:FuncId}{k1 k3 k6 oD Rn:Nat}(bp:List PV)(a0 a2 a5 mO wB:RR)(c4 c7 c8 c9 cB:Int)(eL:Bool)(h:Real P n bp (.aw [.agg [.ow k1 a0,.ow k3 a2,.ii c4,.ow k6 a5,.ii c7,.ii c8,.ii c9,.ii cB,.ow oD mO,.ow Rn wB],.bool eL])):∃ x0 x1 x2 x3 x4,x0=a0/\x1=a2/\x2=a5/\x3=mO/\x4=wB/\Real P n bp (.aw [.agg [.ow k1 x0,.ow k3 x1,.ii c4,.ow k6 x2,.ii c7,.ii c8,.ii c9,.ii cB,.ow oD x3,.ow Rn x4],.bool eL]):=⟨_,_,_,_,_,rfl,rfl,rfl,rfl,rfl,h⟩
end Go.Av
namespace Go.Av
open Go Go.Proofs
set_option maxRecDepth 100000
set_option maxHeartbeats 4000000
set_option linter.unusedVariables false
set_option linter.unusedSimpArgs false
def bq (x:Int):List PV:=[.int .i64 x]
theorem Yy (x:Int):dh (bq x)=bq x:=rfl
theorem js (xs:List Int):ar (xs.map bq)=xs.map bq:=gT _ _ Yy xs
theorem kc (xs:List Int):ko (xs.map bq)=True:=jN _ (λx=>by simp only[bq,cj,fresh,and_self]) xs
def sY (x:Int):List PV:=[.int .u8 x]
def wD (x:Bool):List PV:=[.bool x]
theorem Vl (x:Bool):dh (wD x)=wD x:=rfl
theorem Tb (xs:List Bool):ar (xs.map wD)=xs.map wD:=gT _ _ Vl xs
theorem Tc (xs:List Bool):ko (xs.map wD)=True:=jN _ (λx=>by simp only[wD,cj,fresh,and_self]) xs
def ah (x:ByteArray):List PV:=[.str x]
theorem RF (x:ByteArray):dh (ah x)=ah x:=rfl
theorem bS (xs:List ByteArray):ar (xs.map ah)=xs.map ah:=gT _ _ RF xs
theorem dy (xs:List ByteArray):ko (xs.map ah)=True:=jN _ (λx=>by simp only[ah,cj,fresh,and_self]) xs
structure gu where
 dG:Int
 Flags:Int
 Text:ByteArray
def jV (x:gu):List PV:=[.int .i64 x.dG,.int .i64 x.Flags,.str x.Text]
def fz (x:gu):List PV:=[.int .i64 x.dG,.int .i64 x.Flags,.str x.Text]
theorem Vm (x:gu):dh (fz x)=jV x:=by
 simp only[fz,jV,dh,erase]
theorem L5 (xs:List gu):ar (xs.map fz)=xs.map jV:=gT _ _ Vm xs
theorem y4 (xs:List gu):ko (xs.map fz)=True:=jN _ (λx=>by simp only[fz,cj,fresh,and_self]) xs
structure aT where
 Valid:Int
 cv:ByteArray
 Name:ByteArray
 Next:Int
 fQ:List gu
def iG (x:aT):List PV:=[.int .i64 x.Valid,.str x.cv,.str x.Name,.int .i64 x.Next,.sl 3 (x.fQ.map jV)]
def eA (x:aT):List PV:=[.int .i64 x.Valid,.str x.cv,.str x.Name,.int .i64 x.Next,.ow 3 (x.fQ.map fz)]
theorem Yz (x:aT):dh (eA x)=iG x:=by
 simp only[eA,iG,dh,erase,L5]
theorem je (xs:List aT):ar (xs.map eA)=xs.map iG:=gT _ _ Yz xs
theorem B4 (xs:List aT):ko (xs.map eA)=True:=jN _ (λx=>by simp only[eA,cj,fresh,and_self,y4]) xs
structure RG where
 State:Int
 Td:ByteArray
 To:List ByteArray
 Data:List ByteArray
structure aaI where
 Kind:Int
 cv:ByteArray
 Uu:ByteArray
 To:ByteArray
 dG:Int
 BH:List Int
 Flags:Int
 Text:ByteArray
structure lV where
 No:Int
 jy:Int
def lW (x:lV):List PV:=[.int .i64 x.No,.int .i64 x.jy]
def pD (x:lV):List PV:=[.int .i64 x.No,.int .i64 x.jy]
theorem YA (x:lV):dh (pD x)=lW x:=by
 simp only[pD,lW,dh,erase]
theorem Nz (xs:List lV):ar (xs.map pD)=xs.map lW:=gT _ _ YA xs
theorem Ny (xs:List lV):ko (xs.map pD)=True:=jN _ (λx=>by simp only[pD,cj,fresh,and_self]) xs
structure df where
 fv:Int
 dZ:Int
 ea:Int
 cT:Int
 Refs:List lV
def xU (x:df):List PV:=[.int .i64 x.fv,.int .i64 x.dZ,.int .i64 x.ea,.int .i64 x.cT,.sl 2 (x.Refs.map lW)]
def Nw (x:df):List PV:=[.int .i64 x.fv,.int .i64 x.dZ,.int .i64 x.ea,.int .i64 x.cT,.ow 2 (x.Refs.map pD)]
structure br where
 At:Int
 Text:ByteArray
def bn (x:br):List PV:=[.int .i64 x.At,.str x.Text]
def aU (x:br):List PV:=[.int .i64 x.At,.str x.Text]
theorem Te (x:br):dh (aU x)=bn x:=by
 simp only[aU,bn,dh,erase]
theorem cE (xs:List br):ar (xs.map aU)=xs.map bn:=gT _ _ Te xs
theorem ev (xs:List br):ko (xs.map aU)=True:=jN _ (λx=>by simp only[aU,cj,fresh,and_self]) xs
structure bj where
 aD:List ByteArray
 Cache:List br
def gf (x:bj):List PV:=[.sl 1 (x.aD.map ah),.sl 2 (x.Cache.map bn)]
def jo (x:bj):List PV:=[.ow 1 (x.aD.map ah),.ow 2 (x.Cache.map aU)]
structure RH where
 State:Int
 cv:ByteArray
 fQ:List gu
 oi:List Bool
structure aC where
 jy:Int
 Seq:Int
 Body:ByteArray
def dM (x:aC):List PV:=[.int .i64 x.jy,.int .i64 x.Seq,.str x.Body]
def kf (x:aC):List PV:=[.int .i64 x.jy,.int .i64 x.Seq,.str x.Body]
theorem Tf (x:aC):dh (kf x)=dM x:=by
 simp only[kf,dM,dh,erase]
theorem BA (xs:List aC):ar (xs.map kf)=xs.map dM:=gT _ _ Tf xs
structure aE where
 Kind:Int
 Valid:Int
 dG:Int
 Next:Int
 Flags:Int
 cv:ByteArray
 Name:ByteArray
 Text:ByteArray
def gY (x:aE):List PV:=[.int .i64 x.Kind,.int .i64 x.Valid,.int .i64 x.dG,.int .i64 x.Next,.int .i64 x.Flags,.str x.cv,.str x.Name,.str x.Text]
def EP (x:aE):List PV:=[.int .i64 x.Kind,.int .i64 x.Valid,.int .i64 x.dG,.int .i64 x.Next,.int .i64 x.Flags,.str x.cv,.str x.Name,.str x.Text]
theorem YB (x:aE):dh (EP x)=gY x:=by
 simp only[EP,gY,dh,erase]
theorem MV (xs:List aE):ar (xs.map EP)=xs.map gY:=gT _ _ YB xs
structure ae where
 Seq:Int
 Rec:aE
def aW (x:ae):List PV:=[.int .i64 x.Seq,.int .i64 x.Rec.Kind,.int .i64 x.Rec.Valid,.int .i64 x.Rec.dG,.int .i64 x.Rec.Next,.int .i64 x.Rec.Flags,.str x.Rec.cv,.str x.Rec.Name,.str x.Rec.Text]
def da (x:ae):List PV:=[.int .i64 x.Seq,.int .i64 x.Rec.Kind,.int .i64 x.Rec.Valid,.int .i64 x.Rec.dG,.int .i64 x.Rec.Next,.int .i64 x.Rec.Flags,.str x.Rec.cv,.str x.Rec.Name,.str x.Rec.Text]
theorem Vn (x:ae):dh (da x)=aW x:=by
 simp only[da,aW,dh,erase]
theorem kj (xs:List ae):ar (xs.map da)=xs.map aW:=gT _ _ Vn xs
theorem Tg (xs:List ae):ko (xs.map da)=True:=jN _ (λx=>by simp only[da,cj,fresh,and_self]) xs
structure bu where
 No:Int
 jy:Int
 End:Int
 ka:List ae
def cA (x:bu):List PV:=[.int .i64 x.No,.int .i64 x.jy,.int .i64 x.End,.sl 9 (x.ka.map aW)]
def bW (x:bu):List PV:=[.int .i64 x.No,.int .i64 x.jy,.int .i64 x.End,.ow 9 (x.ka.map da)]
theorem YC (x:bu):dh (bW x)=cA x:=by
 simp only[bW,cA,dh,erase,kj]
theorem im (xs:List bu):ar (xs.map bW)=xs.map cA:=gT _ _ YC xs
theorem nA (xs:List bu):ko (xs.map bW)=True:=jN _ (λx=>by simp only[bW,cj,fresh,and_self,Tg]) xs
structure bF where
 ba:bj
 ld:Int
 Used:List bu
 dZ:Int
 ea:Int
 fv:Int
 cT:Int
def mT (x:bF):List PV:=[.sl 1 (x.ba.aD.map ah),.sl 2 (x.ba.Cache.map bn),.int .i64 x.ld,.sl 4 (x.Used.map cA),.int .i64 x.dZ,.int .i64 x.ea,.int .i64 x.fv,.int .i64 x.cT]
def rV (x:bF):List PV:=[.ow 1 (x.ba.aD.map ah),.ow 2 (x.ba.Cache.map aU),.int .i64 x.ld,.ow 4 (x.Used.map bW),.int .i64 x.dZ,.int .i64 x.ea,.int .i64 x.fv,.int .i64 x.cT]
structure Uv where
 State:Int
 cv:ByteArray
 Uu:ByteArray
 Valid:Int
 BH:List Int
structure aK where
 Log:bF
 cW:List Int
def iv (x:aK):List PV:=[.sl 1 (x.Log.ba.aD.map ah),.sl 2 (x.Log.ba.Cache.map bn),.int .i64 x.Log.ld,.sl 4 (x.Log.Used.map cA),.int .i64 x.Log.dZ,.int .i64 x.Log.ea,.int .i64 x.Log.fv,.int .i64 x.Log.cT,.sl 1 (x.cW.map bq)]
def kP (x:aK):List PV:=[.ow 1 (x.Log.ba.aD.map ah),.ow 2 (x.Log.ba.Cache.map aU),.int .i64 x.Log.ld,.ow 4 (x.Log.Used.map bW),.int .i64 x.Log.dZ,.int .i64 x.Log.ea,.int .i64 x.Log.fv,.int .i64 x.Log.cT,.ow 1 (x.cW.map bq)]
structure fi where
 Kind:Int
 In:ByteArray
 Out:ByteArray
 Over:Bool
 fh:RG
 gJ:RH
 pR:Uv
def kZ (x:fi):List PV:=[.int .i64 x.Kind,.str x.In,.str x.Out,.bool x.Over,.int .i64 x.fh.State,.str x.fh.Td,.sl 1 (x.fh.To.map ah),.sl 1 (x.fh.Data.map ah),.int .i64 x.gJ.State,.str x.gJ.cv,.sl 3 (x.gJ.fQ.map jV),.sl 1 (x.gJ.oi.map wD),.int .i64 x.pR.State,.str x.pR.cv,.str x.pR.Uu,.int .i64 x.pR.Valid,.sl 1 (x.pR.BH.map bq)]
def gA (x:fi):List PV:=[.int .i64 x.Kind,.str x.In,.str x.Out,.bool x.Over,.int .i64 x.fh.State,.str x.fh.Td,.ow 1 (x.fh.To.map ah),.ow 1 (x.fh.Data.map ah),.int .i64 x.gJ.State,.str x.gJ.cv,.ow 3 (x.gJ.fQ.map fz),.ow 1 (x.gJ.oi.map wD),.int .i64 x.pR.State,.str x.pR.cv,.str x.pR.Uu,.int .i64 x.pR.Valid,.ow 1 (x.pR.BH.map bq)]
theorem Pv (x:fi):dh (gA x)=kZ x:=by
 simp only[gA,kZ,dh,erase,Tb,js,L5,bS]
theorem py (xs:List fi):ar (xs.map gA)=xs.map kZ:=gT _ _ Pv xs
theorem wU (xs:List fi):ko (xs.map gA)=True:=jN _ (λx=>by simp only[gA,cj,fresh,and_self,Tc,kc,y4,dy]) xs
structure gv where
 aN:aK
 dg:List fi
def GD (x:gv):List PV:=[.sl 1 (x.aN.Log.ba.aD.map ah),.sl 2 (x.aN.Log.ba.Cache.map bn),.int .i64 x.aN.Log.ld,.sl 4 (x.aN.Log.Used.map cA),.int .i64 x.aN.Log.dZ,.int .i64 x.aN.Log.ea,.int .i64 x.aN.Log.fv,.int .i64 x.aN.Log.cT,.sl 1 (x.aN.cW.map bq),.sl 17 (x.dg.map kZ)]
def yX (x:gv):List PV:=[.ow 1 (x.aN.Log.ba.aD.map ah),.ow 2 (x.aN.Log.ba.Cache.map aU),.int .i64 x.aN.Log.ld,.ow 4 (x.aN.Log.Used.map bW),.int .i64 x.aN.Log.dZ,.int .i64 x.aN.Log.ea,.int .i64 x.aN.Log.fv,.int .i64 x.aN.Log.cT,.ow 1 (x.aN.cW.map bq),.ow 17 (x.dg.map gA)]
structure cY where
 fF:List aT
def jn (x:cY):List PV:=[.sl 5 (x.fF.map iG)]
def nz (x:cY):List PV:=[.ow 5 (x.fF.map eA)]
def jS (xs:List Int):List Nat:=[xs.length]
def Vo (xs:List Bool):List Nat:=[xs.length]
def oF (x:ByteArray):List Nat:=[x.size]
def bR (xs:List ByteArray):List Nat:=xs.length::xs.flatMap oF
def YD (x:gu):List Nat:=[x.Text.size]++([])
def rG (xs:List gu):List Nat:=xs.length::xs.flatMap YD
def B3 (x:aT):List Nat:=[x.cv.size]++([x.Name.size]++(rG x.fQ++([])))
def gW (xs:List aT):List Nat:=xs.length::xs.flatMap B3
def Vp (x:RG):List Nat:=[x.Td.size]++(bR x.To++(bR x.Data++([])))
def NH (x:br):List Nat:=[x.Text.size]++([])
def dX (xs:List br):List Nat:=xs.length::xs.flatMap NH
def db (x:bj):List Nat:=bR x.aD++(dX x.Cache++([]))
def Vq (x:RH):List Nat:=[x.cv.size]++(rG x.fQ++(Vo x.oi++([])))
def eH (x:aE):List Nat:=[x.cv.size]++([x.Name.size]++([x.Text.size]++([])))
def pw (x:ae):List Nat:=eH x.Rec++([])
def il (xs:List ae):List Nat:=xs.length::xs.flatMap pw
def yJ (x:bu):List Nat:=il x.ka++([])
def gl (xs:List bu):List Nat:=xs.length::xs.flatMap yJ
def fg (x:bF):List Nat:=db x.ba++(gl x.Used++([]))
def YE (x:Uv):List Nat:=[x.cv.size]++([x.Uu.size]++(jS x.BH++([])))
def fK (x:aK):List Nat:=fg x.Log++(jS x.cW++([]))
def RI (x:fi):List Nat:=[x.In.size]++([x.Out.size]++(Vp x.fh++(Vq x.gJ++(YE x.pR++([])))))
def qT (xs:List fi):List Nat:=xs.length::xs.flatMap RI
def pJ (x:gv):List Nat:=fK x.aN++(qT x.dg++([]))
def fJ (x:cY):List Nat:=gW x.fF++([])
def dm (n lo hi:Int):Bool:=decide (lo<=n) && decide (n<=hi)
def uE (s:ByteArray):Nat->Nat->Bool
 | _,0=>true
 | i,n+1=>(!(decide (bc s (i:Int) < 97)) && !(decide (122 < bc s (i:Int)))) && uE s (i+1) n
def Wd (s:ByteArray):Bool:=uE s 0 s.size
def dw (s:ByteArray):Bool:=dm (s.size:Int) 1 8 && Wd s
theorem tU {s:ByteArray}{i:Nat}(h:i < s.size):uE s i (s.size - i)=((!(decide (bc s (i:Int) < 97)) && !(decide (122 < bc s (i:Int)))) && uE s (i+1) (s.size - (i+1))):=by
 have e:s.size - i=(s.size - (i+1))+1:=by omega
 rw[e];rfl
theorem Qw {s:ByteArray}{i:Nat}(h:s.size<=i):uE s i (s.size - i)=true:=by
 have e:s.size - i=0:=by omega
 rw[e];rfl
theorem AY {α:Type}{p:α->Bool}{xs:List α}{i:Nat}{x:α}(h:xs[i]? =some x):(xs.drop i).any p=(p x || (xs.drop (i+1)).any p):=by
 obtain⟨hl,rfl⟩:=aaZ.1 h;rw[abK hl];rfl
def vI {α:Type}(p:α->Bool):List α->Nat->Int
 | [],_=> -1
 | x::xs,i=>if p x then (i:Int) else vI p xs (i+1)
theorem JQ {α:Type}{p:α->Bool}{xs:List α}{i:Nat}{x:α}(h:xs[i]? =some x):vI p (xs.drop i) i=if p x then (i:Int) else vI p (xs.drop (i+1)) (i+1):=by
 obtain⟨hl,rfl⟩:=aaZ.1 h;rw[abK hl];rfl
theorem Qx {α:Type}{p:α->Bool}{xs:List α}{i:Nat}(h:xs.length<=i):vI p (xs.drop i) i= -1:=by
 rw[List.drop_of_length_le h];rfl
theorem Qy {α:Type}{p:α->Bool}:∀(xs:List α) (i:Nat),decide (0<=vI p xs i)=xs.any p
 | [],i=>rfl
 | x::xs,i=>by
  by_cases hp:p x=true
  ·simp [vI,hp]
  simpa [vI,hp] using Qy xs (i+1)
theorem MW {A:ax}(hA:A=aj){α:Type}{p:α->Bool}(xs:List α):A.cmp .geq (vI p xs 0) 0=xs.any p:=by
 subst hA;exact Qy xs 0
theorem bP (a b:Int):(a == b)=decide (a=b):=rfl
def bD (k v:Int)(r:aE):Bool:=decide (r.Kind=k) && decide (r.Valid=v)
def dq (k v u:Int)(r:aE):Bool:=bD k v r && decide (r.dG=u)
def dT (a b:ae):Bool:=decide (a.Seq < b.Seq)
def eP (a b:ae):Bool:=if a.Rec.Next=b.Rec.Next then decide (a.Seq < b.Seq) else decide (a.Rec.Next < b.Rec.Next)
def fm (p:aE->Bool)(lt:ae->ae->Bool)(b:Option ae)(x:ae):Option ae:=if p x.Rec && (match b with | none=>true | some y=>lt y x) then some x else b
def gm (p:aE->Bool)(lt:ae->ae->Bool)(xs:List ae):Option ae:=xs.foldl (fm p lt) none
def aax :aE:=⟨0,0,0,0,0,aaM,aaM,aaM⟩
def jb :ae:=⟨0,aax⟩
def kF (v:Int)(xs:List ae):Option ae:=if (gm (bD 2 v) dT xs).isSome=true then none else gm (bD 1 v) eP xs
def ni (v u:Int)(xs:List ae):Option ae:=if (kF v xs).isSome=true then (if (gm (dq 5 v u) dT xs).isSome=true then none else gm (dq 3 v u) dT xs) else none
def iN (zs:List Int):List Int:=zs.mergeSort λx y=>decide (x<=y)
def gU (p:aE->Bool)(f:aE->Int)(xs:List ae):List Int:=(xs.filter λx=>p x.Rec).map λx=>f x.Rec
def gF (p:aE->Bool)(f:aE->Int)(xs:List ae):List Int:=Lib.compact (iN (gU p f xs))
def dU (v:Int)(r:aE):Bool:=bD 3 v r || bD 5 v r
def gZ (r:aE):Bool:=decide (r.Kind=1)
def uI (zs:List Int)(x:Int):List Int:=zs.filter (λy=>decide (y < x))++[x]++zs.filter (λy=>decide (x < y))
def lA (q:aE->Bool)(f:aE->Int)(s:List Int)(x:ae):List Int:=if q x.Rec=true then uI s (f x.Rec) else s
def iO (q:aE->Bool)(f:aE->Int)(xs:List ae):List Int:=xs.foldl (lA q f) []
def bH (r:aE):Bool:=dm r.Valid 1 9999 && (((((decide (r.Kind=1) && (dw r.cv && dw r.Name && dm r.Next 1 10000 && decide (r.dG=0) && decide (r.Flags=0) && decide (r.Text=aaP #[])))
 || (decide (r.Kind=2) && (decide (r.dG=0) && decide (r.Next=0) && decide (r.Flags=0) && decide (r.cv=aaP #[]) && decide (r.Name=aaP #[]) && decide (r.Text=aaP #[]))))
 || (decide (r.Kind=3) && (dm r.dG 1 9999 && dm r.Flags 0 7 && decide (r.Next=0) && decide (r.cv=aaP #[]) && decide (r.Name=aaP #[]) && decide ((r.Text.size:Int)<=100))))
 || (decide (r.Kind=4) && (dm r.dG 1 9999 && dm r.Flags 0 7 && decide (r.Next=0) && decide (r.cv=aaP #[]) && decide (r.Name=aaP #[]) && decide (r.Text=aaP #[]))))
 || (decide (r.Kind=5) && (dm r.dG 1 9999 && decide (r.Next=0) && decide (r.Flags=0) && decide (r.cv=aaP #[]) && decide (r.Name=aaP #[]) && decide (r.Text=aaP #[]))))
def qO (x:ae):Bool:=dm x.Seq 1 1000000000 && bH x.Rec
def jk (x y:ae):Bool:=decide (y.Seq=x.Seq) && !(dH (aW y) (aW x))
def lU :List ae->List ae->Bool
 | _,[]=>true
 | pre,x::xs=>(qO x && !(pre.any (jk x))) && lU (pre++[x]) xs
def dY (xs:List ae):Bool:=decide ((xs.length:Int)<=200) && lU [] xs
def B9 (v:Int)(xs:List ae)(u:Int)(a:ae):gu:=⟨u,if (gm (dq 4 v u) dT xs).isSome=true then ((gm (dq 4 v u) dT xs).getD jb).Rec.Flags else a.Rec.Flags,a.Rec.Text⟩
def jT (v:Int)(xs:List ae)(u:Int):Option gu:=if (ni v u xs).isSome=true then some (B9 v xs u ((ni v u xs).getD jb)) else none
def rW (v:Int)(xs:List ae)(u:Int):gu:=B9 v xs u ((gm (dq 3 v u) dT xs).getD jb)
def tI (a:Int)(us:List Int):Int:=us.foldl (λn u=>max n (u+1)) a
def sL (xs:List ae)(x:ae):aT:=⟨x.Rec.Valid,x.Rec.cv,x.Rec.Name,tI x.Rec.Next (gF (dU x.Rec.Valid) aE.dG xs),(gF (dU x.Rec.Valid) aE.dG xs).filterMap (jT x.Rec.Valid xs)⟩
def pC (xs:List ae)(v:Int):Option aT:=if (kF v xs).isSome=true then some (sL xs ((kF v xs).getD jb)) else none
def Ba (xs:List ae):List aT:=(gF gZ aE.Valid xs).filterMap (pC xs)
def kB (xs:List ae):cY:=if dY xs=true then ⟨Ba xs⟩ else ⟨[]⟩
def eT (v:Int)(r:aE):Int:=if (decide (r.Valid=v) && decide (r.Kind=1))=true then r.Next else if dU v r=true then r.dG+1 else 0
def jZ (v:Int)(xs:List ae):Int:=xs.foldl (λn x=>max n (eT v x.Rec)) 1
def kG (v:Int)(xs:List ae)(r:aE):Bool:=bD 3 v r && !(gm (dq 5 v r.dG) dT xs).isSome
def T0 (v:Int)(xs:List ae):List Int:=iO (kG v xs) aE.dG xs
def xy (v:Int)(xs:List ae):List gu:=(T0 v xs).map (rW v xs)
def Bb (xs:List ae)(v:Int):aT:=⟨v,((gm (bD 1 v) eP xs).getD jb).Rec.cv,((gm (bD 1 v) eP xs).getD jb).Rec.Name,jZ v xs,xy v xs⟩
def mu (xs:List ae)(r:aE):Bool:=gZ r && !(gm (dq 2 r.Valid 0) dT xs).isSome
def M0 (xs:List ae):List Int:=iO (mu xs) aE.Valid xs
def E4 (xs:List ae):List aT:=(M0 xs).map (Bb xs)
def bm (us:List bu):List ae:=us.flatMap bu.ka
def E5 (xs:List ae):cY:=if dY xs=true then ⟨E4 xs⟩ else ⟨[]⟩
theorem gn {p:aE->Bool}{lt:ae->ae->Bool}{xs:List ae}{i:Nat}{x:ae}(h:xs[i]? =some x):gm p lt (xs.take (i+1))=fm p lt (gm p lt (xs.take i)) x:=by
 rw[List.take_add_one,h];simp[gm,List.foldl_append]
theorem sn {p:aE->Bool}{lt:ae->ae->Bool}{b:Option ae}{x:ae}(h:p x.Rec=false):fm p lt b x=b:=by simp[fm,h]
theorem xz {p:aE->Bool}{lt:ae->ae->Bool}{b:Option ae}{x:ae}(h:p x.Rec=true)(hb:false=b.isSome):fm p lt b x=some x:=by
 cases b with
 | none=>simp[fm,h]
 | some y=>cases hb
theorem xA {p:aE->Bool}{lt:ae->ae->Bool}{b:Option ae}{x y:ae}(h:p x.Rec=true)(hb:true=b.isSome)(hy:y=b.getD jb)(hl:lt y x=true):fm p lt b x=some x:=by
 cases b with
 | none=>cases hb
 | some z=>have hy:y=z:=hy;subst hy;simp[fm,h,hl]
theorem xB {p:aE->Bool}{lt:ae->ae->Bool}{b:Option ae}{x y:ae}(hb:true=b.isSome)(hy:y=b.getD jb)(hl:lt y x=false):fm p lt b x=b:=by
 cases b with
 | none=>cases hb
 | some z=>have hy:y=z:=hy;subst hy;simp[fm,hl]
theorem ot (A:ax)(hA:A=aj)(r:aE)(k v:Int):al 198 [.agg (gY r),.ii k,.ii v] (.bool (bD k v r)):=by
 obtain⟨a2,a0,a7,a6,a1,a4,a5,a3⟩:=r;refine ak (az:=[.agg [.ii a2,.ii a0,.ii a7,.ii a6,.ii a1,.str a4,.str a5,.str a3],.ii k,.ii v]) (by rfl) ?_;refine aY Tryz.func198 ?_;refine gx hA 2 ?_;refine gs (gr (rn hA 5 ?_));refine ag 11 rfl (λc1=>?_) (λc1=>?_)
 ·
  have aV:a2=k:=eE hA c1;refine rz hA 6 ?_;refine rt (gt ?_);show _=(PV.bool (A.cmp .eql a0 v));refine congrArg PV.bool ?_;subst hA;simp[bD,aj,abc,bP,aV]
 have aV:a2≠k:=eF hA c1;refine rz hA 6 ?_;refine rt (gt ?_);refine congrArg PV.bool ?_;subst hA;simp[bD,aj,abc,bP,aV,aV.symm]
theorem Li (A:ax)(hA:A=aj)(r:aE)(k v u:Int):al 247 [.agg (gY r),.rd [.ii k],.rd [.ii v],.rd [.ii u]] (.bool (dq k v u r)):=by
 obtain⟨a2,a0,a7,a6,a1,a4,a5,a3⟩:=r;refine ak (az:=[.agg [.ii a2,.ii a0,.ii a7,.ii a6,.ii a1,.str a4,.str a5,.str a3],.rd [.ii k],.rd [.ii v],.rd [.ii u]]) (by rfl) ?_;refine aY Tryz.func247 ?_;refine gx hA 2 ?_;refine gs (gr (rn hA 3 ?_));obtain⟨d2,c9,aJ⟩:=kV (bD k v (⟨a2,a0,a7,a6,a1,a4,a5,a3⟩:aE)) (ot A hA (⟨a2,a0,a7,a6,a1,a4,a5,a3⟩:aE) k v);refine aH aJ (.inr rfl) ?_;refine rn hA 1 ?_;refine ag 10 rfl (λc3=>?_) (λc3=>?_)
 ·
  refine rz hA 6 ?_;refine rt (gt ?_);show _=(PV.bool (A.cmp .eql a7 u));refine congrArg PV.bool ?_;subst c9;subst hA;simp[dq,aj,abc,bP,c3]
 refine rz hA 6 ?_;refine rt (gt ?_);refine congrArg PV.bool ?_;subst c9;subst hA;simp[dq,aj,abc,bP,c3]
theorem Lj (A:ax)(hA:A=aj)(r:aE)(v:Int):al 197 [.agg (gY r),.rd [.ii v]] (.bool (bD 2 v r)):=by
 obtain⟨a2,a0,a7,a6,a1,a4,a5,a3⟩:=r;refine ak (az:=[.agg [.ii a2,.ii a0,.ii a7,.ii a6,.ii a1,.str a4,.str a5,.str a3],.rd [.ii v]]) (by rfl) ?_;refine aY Tryz.func197 ?_;refine gx hA 2 ?_;refine gs (gr (rn hA 2 ?_));obtain⟨d1,c8,aJ⟩:=kV (bD 2 v (⟨a2,a0,a7,a6,a1,a4,a5,a3⟩:aE)) (ot A hA (⟨a2,a0,a7,a6,a1,a4,a5,a3⟩:aE) 2 v);refine aH aJ (.inr rfl) ?_;refine rz hA 1 ?_;refine rt (gt ?_);refine congrArg PV.bool ?_;subst c8;subst hA;simp[bD,aj,abc,bP,]
theorem Lk (A:ax)(hA:A=aj)(r:aE)(v:Int):al 200 [.agg (gY r),.rd [.ii v]] (.bool (bD 1 v r)):=by
 obtain⟨a2,a0,a7,a6,a1,a4,a5,a3⟩:=r;refine ak (az:=[.agg [.ii a2,.ii a0,.ii a7,.ii a6,.ii a1,.str a4,.str a5,.str a3],.rd [.ii v]]) (by rfl) ?_;refine aY Tryz.func200 ?_;refine gx hA 2 ?_;refine gs (gr (rn hA 2 ?_));obtain⟨d1,c8,aJ⟩:=kV (bD 1 v (⟨a2,a0,a7,a6,a1,a4,a5,a3⟩:aE)) (ot A hA (⟨a2,a0,a7,a6,a1,a4,a5,a3⟩:aE) 1 v);refine aH aJ (.inr rfl) ?_;refine rz hA 1 ?_;refine rt (gt ?_);refine congrArg PV.bool ?_;subst c8;subst hA;simp[bD,aj,abc,bP,]
theorem Bc (A:ax)(hA:A=aj)(a b:ae):al 199 [.agg (aW a),.agg (aW b)] (.bool (dT a b)):=by
 obtain⟨c6,⟨b7,b1,c4,a9,b3,b8,c0,c2⟩⟩:=a;obtain⟨c7,⟨b4,b0,c5,a8,b2,b5,b6,b9⟩⟩:=b;refine ak (az:=[.agg [.ii c6,.ii b7,.ii b1,.ii c4,.ii a9,.ii b3,.str b8,.str c0,.str c2],.agg [.ii c7,.ii b4,.ii b0,.ii c5,.ii a8,.ii b2,.str b5,.str b6,.str b9]]) (by rfl) ?_;refine aY Tryz.func199 ?_;refine gx hA 3 ?_;refine gx hA 6 ?_;refine rt (gt ?_);show _=(PV.bool (A.cmp .lss c6 c7));refine congrArg PV.bool ?_;subst hA;simp[dT,aj,abc,bP,]
theorem Jf (A:ax)(hA:A=aj)(a b:ae):al 201 [.agg (aW a),.agg (aW b)] (.bool (eP a b)):=by
 obtain⟨c6,⟨b7,b1,c4,a9,b3,b8,c0,c2⟩⟩:=a;obtain⟨c7,⟨b4,b0,c5,a8,b2,b5,b6,b9⟩⟩:=b;refine ak (az:=[.agg [.ii c6,.ii b7,.ii b1,.ii c4,.ii a9,.ii b3,.str b8,.str c0,.str c2],.agg [.ii c7,.ii b4,.ii b0,.ii c5,.ii a8,.ii b2,.str b5,.str b6,.str b9]]) (by rfl) ?_;refine aY Tryz.func201 ?_;refine gx hA 3 ?_;refine gs (gx hA 7 ?_);refine gc (λc1=>?_) (λc1=>?_)
 ·
  have aV:a9≠a8:=gp hA c1;refine gx hA 8 ?_;refine rt (gt ?_);show _=(PV.bool (A.cmp .lss a9 a8));refine congrArg PV.bool ?_;subst hA;simp[eP,aj,abc,bP,aV,aV.symm]
 have aV:a9=a8:=gq hA c1;refine gk (gx hA 6 ?_);refine rt (gt ?_);show _=(PV.bool (A.cmp .lss c6 c7));refine congrArg PV.bool ?_;subst hA;simp[eP,aj,abc,bP,aV]
end Go.Av

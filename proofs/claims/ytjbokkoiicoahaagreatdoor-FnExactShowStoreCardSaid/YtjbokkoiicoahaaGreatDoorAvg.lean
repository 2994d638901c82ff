/- Rules for printed walks: loops by any relation; what a told comparison says. -/
import Derived.Test.YtjbokkoiicoahaaGreatDoorAvq3
namespace Go.Av
open Go Go.RowKit
set_option linter.unusedVariables false
set_option linter.unusedSimpArgs false
section
variable {P : Program} {A : Alg} {T : Tys} {X : Spec} {all l l' : List Oper} {σ σ' : St} {o : Oper} {K : St → Prop} {Q : AE → St → Prop}
theorem go_loopE {b:Code}(I:St→Nat→Prop)(n:Nat)(tw:List Tw)(ks ds:List Nat)(σ0:St)(ht:tweak σ tw=some σ')(h0:σ'.keep ks ds=σ0)(hi:I σ0 n)
  (hstep:∀ σ n,I σ n→awp T X b (fun e σ2=>match e with | .normal=>∃ σ3 m,m < n∧σ2.keep ks ds=σ3∧I σ3 m | e=>Q e σ2) σ):awp T X (.loop b) Q σ:=by
 refine⟨tw,σ',ks,ds,I,n,ht,h0 ▸ hi,fun σ3 m hI=>awp_mono ?_ (hstep σ3 m hI)⟩
 intro e σ2 h2
 cases e with
 | normal=>obtain⟨σ4,m',h3,h4,h5⟩:=h2;exact⟨m',h3,h4 ▸ h5⟩
 | exit id=>exact h2
 | ret=>exact h2
theorem str_add {t:TypeId}{x y:Operand}{t':TypeId}{a b s:ByteArray}(ho:o.op=.binOp .add t x y t')(hx:σ.get x=.str a)(hy:σ.get y=.str b)(hs:s=a++b)(hl:a.size+b.size≤140737488355328):step T σ o=some (σ.put o.dst (.str s)):=by
 subst hs
 simp only[step,ho,hx,hy,binopT,binop,strop,hl,decide_true,cond_true]
theorem go_drawE {Q:AE→St→Prop}{id n:Nat}{ops:Array Oper}{L0:List Bool}(rk:List Nat)(he:okEdges rk ops=true)(hn:ops.size=n)(hL:falses n=L0)(σF:St)(h:∀(R:Array Oper) (K:St→Prop),R=ops→K σF→dwp T X R K n L0 σ)(hF:Q .normal σF):awp T X (.region id ops true) Q σ:=by
 subst hn;subst hL
 exact⟨[],σ,rfl,.inr ⟨⟨rk,he⟩,h ops _ rfl hF⟩⟩
theorem dwp_next {R:Array Oper}{n:Nat}{L:List Bool}{is:List Nat}(hi:upto 0 R.size=is)(h:allRdy R L (fun i o=>aops T X R.toList [o] (dwp T X R K n (setT L i)) σ) is):dwp T X R K (n+1) L σ:=by
 subst hi
 exact⟨[],σ,rfl,h⟩
theorem dwp_last {R:Array Oper}{L:List Bool}(h:K σ):dwp T X R K 0 L σ:=⟨[],σ,rfl,h⟩
theorem tweak_app :∀(a b:List Tw) (σ σ1:St),tweak σ a=some σ1→tweak σ (a++b)=tweak σ1 b
 | [],b,σ,σ1,h=>by simp only[tweak,Option.some.injEq] at h;subst h;rfl
 | t::a,b,σ,σ1,h=>by
  simp only[tweak,List.cons_append] at h ⊢
  split at h
  ·rename_i σ2 h2;exact tweak_app a b σ2 σ1 h
  cases h
theorem dwp_to {R:Array Oper}{n:Nat}{L L':List Bool}(tw:List Tw)(ht:tweak σ tw=some σ')(hL:L=L')(h:dwp T X R K n L' σ'):dwp T X R K n L σ:=by
 subst hL
 cases n with
 | zero=>obtain⟨tw2,σ2,h2,h3⟩:=h;exact⟨tw++tw2,σ2,by rw[tweak_app _ _ _ _ ht];exact h2,h3⟩
 | succ n=>obtain⟨tw2,σ2,h2,h3⟩:=h;exact⟨tw++tw2,σ2,by rw[tweak_app _ _ _ _ ht];exact h2,h3⟩
theorem allRdy_none {R:Array Oper}{L:List Bool}{F:Nat→Oper→Prop}{i:Nat}{l:List Nat}(ho:rdyOp R L i=none)(ht:allRdy R L F l):allRdy R L F (i::l):=by
 simp only[allRdy,ho];exact ht
def depsE :List Edge→List Nat
  | []=>[]
  | e::l=>match bindsAny e with
    | true=>e.on::depsE l
    | false=>depsE l
def allT (L:List Bool):List Nat→Prop
 | []=>True
 | d::ds=>nthB L d=true∧allT L ds
theorem depsE_all {L:List Bool}:∀ l:List Edge,(l.all fun e=> !bindsAny e || nthB L e.on)=true→allT L (depsE l)
 | [],_=>trivial
 | e::l,h=>by
  simp only[List.all_cons,Bool.and_eq_true] at h
  unfold depsE
  cases hb:bindsAny e with
  | false=>exact depsE_all l h.2
  | true=>
   have h1:=h.1
   rw[hb] at h1
   exact⟨by simpa using h1,depsE_all l h.2⟩
theorem allRdy_q {R:Array Oper}{L:List Bool}{F:Nat→Oper→Prop}{i:Nat}{l ds:List Nat}{o:Oper}(ho:R[i]? =some o)(hd:depsE o.after.toList=ds)(h:nthB L i=false→allT L ds→F i o)(ht:allRdy R L F l):allRdy R L F (i::l):=by
 subst hd
 simp only[allRdy,rdyOp,ho]
 cases hb:nthB L i with
 | true=>simpa only[Bool.not_true,Bool.false_and] using ht
 | false=>
  cases ha:(o.after.toList.all fun e=> !bindsAny e || nthB L e.on) with
  | false=>simpa only[Bool.not_false,Bool.true_and] using ht
  | true=>exact⟨h hb (depsE_all _ ha),ht⟩
theorem cnt_dec {L:List Bool}{i n:Nat}(h0:nthB L i=false)(hi:i < L.length)(hn:cntF L=n+1):cntF (setT L i)=n:=by
 have:=cntF_setT L i hi h0;omega
theorem ops_callC {g:FuncId}{args args1:List PV}{r:PV}{d d0:Nat}(hg:o.guard=none)(hc:callOf σ o=some (g,args))(hd:o.dst=some d)(hl:lendS σ.bl args=some args1)(hn:ownsS args=[d0])(hX:X.c g args1 r)(hf:freeB (σ.drop d0).bl (bindR true d r).2=true)
  (h:aops T X all l K ((σ.drop d0).bind d r)):aops T X all (o::l) K σ:=by
 simp only[aops,hg]
 exact .inr (.inr (.inr (.inr (.inl ⟨g,args,args1,r,d,d0,hc,hd,hl,hn,hX,hf,h⟩))))
theorem ops_ext (hg:o.guard=none){σ1:St}(hs:stepE T σ o=some σ1)(h:aops T X all l K σ1):aops T X all (o::l) K σ:=by
 simp only[aops,hg]
 exact .inr (.inr (.inr (.inr (.inr (.inr ⟨σ1,hs,h⟩)))))
theorem ext_neg {t:TypeId}{x:Operand}{k:IntKind}{n m:Int}(ho:o.op=.unOp .neg t x)(hx:σ.get x=.int k n)(hm:m=k.wrap (0 - n)):stepE T σ o=some (σ.put o.dst (.int k m)):=by
 subst hm;simp only[stepE,ho,hx]
theorem ext_min {x y:Operand}{ts:Array TypeId}{n p m:Int}(ho:o.op=.call {callee:=.builtin .min,args:=#[x,y],argTypes:=ts})(hx:σ.get x=.int .i64 n)(hy:σ.get y=.int .i64 p)(hm:m=min n p):stepE T σ o=some (σ.put o.dst (.int .i64 m)):=by
 subst hm;simp only[stepE,ho,hx,hy]
theorem ext_shr {t t1:TypeId}{x y:Operand}{k kb:IntKind}{a b m:Int}(ho:o.op=.binOp .shr t x y t1)(hx:σ.get x=.int k a)(hy:σ.get y=.int kb b)(h0:0≤b)(h1:b≤(k.bits:Int))(hm:m=a.fdiv (2 ^ b.toNat)):stepE T σ o=some (σ.put o.dst (.int k m)):=by
 subst hm;simp only[stepE,ho,hx,hy,h0,h1,decide_true,Bool.and_self]
theorem ext_field {t:TypeId}{x:Operand}{f:Nat}{fs:List (Nat × Nat)}{fl:Bool}{one:List Bool}{sz by_ off sz2:Nat}{z cs:List PV}{c:PV}(ho:o.op=.field t x f)(hT:T t=some ⟨.struct fs fl one,sz,by_,z⟩)(hx:σ.get x=.agg cs)
  (h1:fs[f]? =some (off,sz2)) (h2:one[f]? =some true) (h3:cs[off]? =some c):stepE T σ o=some (σ.put o.dst c):=by
 simp only[stepE,ho,hT,hx,h1,h2,h3]
theorem ext_max {x y:Operand}{ts:Array TypeId}{n p m:Int}(ho:o.op=.call {callee:=.builtin .max,args:=#[x,y],argTypes:=ts})(hx:σ.get x=.int .i64 n)(hy:σ.get y=.int .i64 p)(hm:m=max n p):stepE T σ o=some (σ.put o.dst (.int .i64 m)):=by
 subst hm;simp only[stepE,ho,hx,hy]
theorem ext_lit {t e:TypeId}{len d sz0 by0:Nat}{z0:List PV}{ie:TI}{ps:Array (Nat × Operand)}{rows r:List (List PV)}(ho:o.op=.buildSlice t len ps)(hd:o.dst=some d)(hT:T t=some ⟨.slice e,sz0,by0,z0⟩)(hTe:T e=some ie)
  (hp:partsM σ 0 ps.toList=some rows) (hb:blk σ.bl d=none) (hc:(nq ie.size 1 && nq len rows.length && nlt 0 len && nle len 1000)=true) (hr:r=rows):
  stepE T σ o=some {σ with sl:=setL σ.sl d (.own d),bl:=(d,⟨.arr,1,r⟩)::σ.bl}:=by
 subst hr;simp only[stepE,ho,stBuildM,hd,hT,hTe,hp,hb,hc]
theorem int_quo {t t':TypeId}{x y:Operand}{k:IntKind}{a b m:Int}(ho:o.op=.binOp .quo t x y t')(hx:σ.get x=.int k a)(hy:σ.get y=.int k b)(hb:b≠0)(hm:m=k.wrap (a.tdiv b)):step T σ o=some (σ.put o.dst (.int k m)):=by
 subst hm
 have e:decide (b=0)=false:=decide_eq_false hb
 simp[step,ho,hx,hy,binopT,binop,intop,kindB,e]
theorem ops_callVFn {g:FuncId}{args args':List PV}{d:Nat}{r r':PV}(hg:o.guard=none)(hd:o.dst=some d)(hc:callOf σ o=some (g,args))(hv:viewS σ.bl args=args')(hX:X g args' r)
  (hf:fresh r∨noHL args=true) (hr:froze r=r') (h:aops T X all l K (σ.put (some d) r')):aops T X all (o::l) K σ:=by
 subst hr;exact ops_callVF hg hd hc hv hX hf h
theorem ld_arr {t:TypeId}{x:Operand}{i:TI}{d a j sz:Nat}{rows:List (List PV)}{r:List PV}{v:PV}(ho:o.op=.load t x)(hT:T t=some i)(hx:σ.get x=.pt d a j)(hb:blk σ.bl d=some ⟨.arr,sz,rows⟩)(hr:rows[a]? =some r)(hl:loadOf i (r.drop j)=some v):
  step T σ o=some (σ.put o.dst v):=by
 simp only[step,ho,stLoad,hT,hx,hb,hr,hl]
theorem idx_str {t:TypeId}{x ix:Operand}{sz0 by0:Nat}{z0:List PV}{s:ByteArray}{k:IntKind}{n v:Int}(ho:o.op=.index t x ix)(hT:T t=some ⟨.str,sz0,by0,z0⟩)(hx:σ.get x=.str s)(hix:σ.get ix=.int k n)(h0:0≤n)(hl:n < s.size)(hv:v=byteAt s n):step T σ o=some (σ.put o.dst (.int .u8 v)):=by
 subst hv
 simp only[step,ho,stIndex,hT,hx,hix,h0,hl,decide_true,Bool.and_self]
theorem app_own {t t' e:TypeId}{x y:Operand}{c:Go.Call}{sz0 by0:Nat}{z0:List PV}{ie:TI}{dd d sz:Nat}{rows news rows':List (List PV)}{σ1:St}(ho:o.op=.call c)(hd:o.dst=some dd)(hc:c.callee=.builtin .append)(ha:c.args.toList=[x,y])(ht:c.argTypes.toList=[t,t'])(htt:nq t t'=true)
  (hT:T t=some ⟨.slice e,sz0,by0,z0⟩) (hTe:T e=some ie) (hr:rows'=rows++news) (hn:newsOf σ ie.size (σ.get y)=some (news,σ1)) (hx:σ1.get x=.own d) (hb:blk σ1.bl d=some ⟨.arr,sz,rows⟩) (hs:nq sz ie.size=true)
  (hl:(rows.length+news.length) * ie.bytes≤140737488355328) (hby:0 < ie.bytes) (hsz:0 < ie.size):step T σ o=some {sl:=setL (killS d σ1.sl) dd (.own d),bl:=setB (killB d σ1.bl) d ⟨.arr,sz,rows'⟩,hd:=delV σ1.hd d}:=by
 subst hr
 simp only[step,ho,hc,ha,ht,htt,cond_true,hd,stAppend,hT,hTe,hn,hx,hb,hs,hl,hby,hsz,decide_true,Bool.true_and,Bool.and_self]
theorem app_eq {α:Type}{f:α→List PV}{a b:List (List PV)}{xs ys:List α}(h1:a=List.map f xs)(h2:b=List.map f ys):a++b=List.map f (xs++ys):=by
 rw[h1,h2,List.map_append]
theorem ops_doneB {tw:List Tw}{σ2:St}{Q:St→Prop}(ht:tweak σ tw=some σ2)(h:Q σ2):aops T X all [] (fun σ1=>∃ tw2 σ2,tweak σ1 tw2=some σ2∧Q σ2) σ:=⟨tw,σ2,ht,h⟩
theorem real_args {P:Program}{g:FuncId}{args args':List PV}{r:PV}(h:args=args')(hr:Real P g args' r):Real P g args r:=h ▸ hr
theorem dops_guard {j:Nat}{t:Tmp}{want:Bool}(hg:o.guard=some (j,want))(hd:dstOf all j=some t)(hb:getL σ.sl t=.bool want)(h:dop T X o (dops T X all l K) σ):dops T X all (o::l) K σ:=by
 simp only[dops,hg,hd,hb]
 exact⟨fun _=>h,fun h1=>by cases want<;>cases h1⟩
theorem dops_stepG {j:Nat}{t:Tmp}{want:Bool}(hg:o.guard=some (j,want))(hd:dstOf all j=some t)(hb:getL σ.sl t=.bool want)(hc:callOf σ o=none)(hp:pureOp o=true)(hs:step T σ o=some σ')
 (h:dops T X all l K σ'):dops T X all (o::l) K σ:=dops_guard hg hd hb (dop_step hc hp hs h)
theorem dops_callG {j:Nat}{t:Tmp}{want:Bool}{g:FuncId}{args args':List PV}{d:Nat}{r:PV}(hg:o.guard=some (j,want))(hdj:dstOf all j=some t)(hb:getL σ.sl t=.bool want)(hd:o.dst=some d)
  (hc:callOf σ o=some (g,args)) (hv:viewS σ.bl args=args') (hX:X g args' r) (hf:fresh r∨noHL args=true) (h:dops T X all l K (σ.put (some d) (froze r))):dops T X all (o::l) K σ:=by
 refine dops_guard hg hdj hb ?_
 unfold dop
 rw[hc,hd]
 exact⟨r,hv ▸ hX,hf,h⟩
end
theorem pvEqL_eq :∀{l m:List PV},sameK l m=true→pvEqL l m=true→l=m
 | [],[],_,_=>rfl
 | c::l,d::m,hk,h=>by
  simp only[sameK,pvEqL,Bool.and_eq_true] at hk h
  rw[pvEqL_eq hk.2 h.2]
  congr 1
  cases c<;>cases d<;>simp[sameK1] at hk
  ·have e:=of_decide_eq_true hk.1;subst e
   have:=h.1;simp[pvEq] at this;rw[this]
  ·have:=h.1;simp[pvEq] at this;rw[this]
  have:=h.1;simp[pvEq] at this;rw[tl_inj this]
 | [],_::_,h,_=>by cases h
 | _::_,[],h,_=>by cases h
theorem pvEqL_refl :∀{l:List PV},sameK l l=true→pvEqL l l=true
 | [],_=>rfl
 | c::l,hk=>by
  simp only[sameK,pvEqL,Bool.and_eq_true] at hk ⊢
  refine⟨?_,pvEqL_refl hk.2⟩
  cases c<;>simp[sameK1] at hk<;>simp[pvEq]
theorem pvEqL_iff {l m:List PV}(hk:sameK l m=true)(hl:sameK l l=true):pvEqL l m=true↔l=m:=
 ⟨pvEqL_eq hk,fun h=>by subst h;exact pvEqL_refl hl⟩
section
variable {A : Alg} (hA : A = std) {a b : Int} {s t : ByteArray} {x : Bool}
include hA
theorem lss_t (h:A.cmp .lss a b=true):a < b:=by subst hA;simpa [std] using h
theorem lss_f (h:A.cmp .lss a b=false):b≤a:=by subst hA;simpa [std] using h
theorem leq_t (h:A.cmp .leq a b=true):a≤b:=by subst hA;simpa [std] using h
theorem leq_f (h:A.cmp .leq a b=false):b < a:=by subst hA;simpa [std] using h
theorem gtr_t (h:A.cmp .gtr a b=true):b < a:=by subst hA;simpa [std] using h
theorem gtr_f (h:A.cmp .gtr a b=false):a≤b:=by subst hA;simpa [std] using h
theorem geq_t (h:A.cmp .geq a b=true):b≤a:=by subst hA;simpa [std] using h
theorem geq_f (h:A.cmp .geq a b=false):a < b:=by subst hA;simpa [std] using h
theorem eql_t (h:A.cmp .eql a b=true):a=b:=by subst hA;simpa [std] using h
theorem eql_f (h:A.cmp .eql a b=false):a≠b:=by subst hA;simpa [std] using h
theorem neq_t (h:A.cmp .neq a b=true):a≠b:=by subst hA;simpa [std] using h
theorem neq_f (h:A.cmp .neq a b=false):a=b:=by subst hA;simpa [std] using h
theorem sneq_t (h:A.scmp .neq s t=true):s≠t:=by subst hA;intro e;subst e;simp[std] at h
theorem sneq_f (h:A.scmp .neq s t=false):s=t:=by subst hA;exact tl_inj (by simpa [std] using h)
theorem aeq_t {l m:List PV}(hk:sameK l m=true)(h:A.aeq l m=true):l=m:=by subst hA;exact pvEqL_eq hk h
theorem aeq_f {l m:List PV}(hk:sameK l m=true)(h:A.aeq l m=false):l≠m:=by
 subst hA
 rintro rfl
 have:pvEqL l l=true:=pvEqL_refl hk
 have h:pvEqL l l=false:=h
 rw[this] at h;cases h
theorem bnot_t (h:A.bnot x=true):x=false:=by subst hA;simpa [std] using h
theorem bnot_f (h:A.bnot x=false):x=true:=by subst hA;simpa [std] using h
theorem rlen_map {α:Type}{f:α→List PV}{xs:List α}{r:List (List PV)}(h:r=xs.map f):A.rlen r=(xs.length:Int):=by subst hA;subst h;simp[std]
theorem slen_eq (s:ByteArray):A.slen s=(s.size:Int):=by subst hA;rfl
theorem add_i64 (h1: -9223372036854775808≤a+b)(h2:a+b≤9223372036854775807):A.num .add .i64 a b=a+b:=by subst hA;exact wrap_id h1 h2
theorem sub_i64 (h1: -9223372036854775808≤a - b)(h2:a - b≤9223372036854775807):A.num .sub .i64 a b=a - b:=by subst hA;exact wrap_id h1 h2
end
theorem fresh_map {α:Type}(f:α→List PV)(h:∀ x,freshL (f x)=True):∀ xs:List α,freshR (xs.map f)=True
 | []=>by simp only[List.map_nil,freshR]
 | x::xs=>by simp only[List.map_cons,freshR,h x,fresh_map f h xs,and_self]
theorem chain_str {n w:Int}{k:Nat}{l:List Nat}(hw:w=n - k)(h:0≤w):chain n ([k]++l)=chain w l:=by
 rw[List.singleton_append,chain_cons,if_neg (by omega),hw]
theorem chain_strN {n w:Int}{k:Nat}{l:List Nat}(hw:w=n - k)(h:w < 0):chain n ([k]++l)= -1:=by
 rw[List.singleton_append,chain_cons,if_pos (by omega)]
theorem chain_sub {n v:Int}{a l:List Nat}(hv:v=chain n a)(h:0≤v):chain n (a++l)=chain v l:=by
 rw[chain_app _ _ _ (hv ▸ h),hv]
theorem chain_subN {n v:Int}{a l:List Nat}(hn:0≤n)(hv:v=chain n a)(h:v < 0):chain n (a++l)= -1:=chain_neg _ _ _ hn (hv ▸ h)
theorem chain_bd {n v:Int}{a:List Nat}(hv:v=chain n a)(h:0≤n):v≤n∧ -1≤v:=by
 subst hv;exact⟨chain_le _ _ (by omega),chain_ge _ _ (by omega)⟩
section
variable {A : Alg} {T : Tys} {X : Spec} {all l l' : List Oper} {σ σ' : St} {K : St → Prop} {Q : AE → St → Prop}
abbrev RR :=List (List PV)
theorem nm {α:Sort _}(a:α):∃ r,r=a:=⟨a,rfl⟩
theorem gs {a b:Code}(h:awp T X a (fun e σ'=>match e with | .normal=>awp T X b Q σ' | e=>Q e σ') σ):awp T X (.seq a b) Q σ:=h
theorem gr {id:Nat}{ops:Array Oper}(h:aops T X ops.toList ops.toList (Q .normal) σ):awp T X (.region id ops false) Q σ:=go_reg h
theorem gB {id:Nat}{ops:Array Oper}(h:aops T X ops.toList ops.toList (fun σ1=>∃ tw2 σ2,tweak σ1 tw2=some σ2∧Q .normal σ2) σ):awp T X (.region id ops false) Q σ:=go_regB h
theorem gk (h:Q .normal σ):awp T X .skip Q σ:=h
theorem ra (hA:A=std)(n:Nat)(h:runK A T false all n l σ=some (l',σ'))(ha:aops T X all l' K σ'):aops T X all l K σ:=run_aops hA n l l' σ σ' h ha
theorem rd (hA:A=std)(n:Nat)(h:runK A T true all n l σ=some (l',σ'))(ha:dops T X all l' K σ'):dops T X all l K σ:=run_dops hA n l l' σ σ' h ha
theorem od (h:K σ):aops T X all [] K σ:=h
theorem dd_ (h:K σ):dops T X all [] K σ:=h
theorem rn (hA:A=std)(n:Nat)(ha:aops T X all l' K σ')(h:runK A T false all n l σ=some (l',σ'):=by cbv):aops T X all l K σ:=run_aops hA n l l' σ σ' h ha
theorem rz (hA:A=std)(n:Nat)(ha:K σ')(h:runK A T false all n l σ=some ([],σ'):=by cbv):aops T X all l K σ:=run_aops hA n l [] σ σ' h ha
theorem dn_ (hA:A=std)(n:Nat)(ha:dops T X all l' K σ')(h:runK A T true all n l σ=some (l',σ'):=by cbv):dops T X all l K σ:=run_dops hA n l l' σ σ' h ha
theorem dz (hA:A=std)(n:Nat)(ha:K σ')(h:runK A T true all n l σ=some ([],σ'):=by cbv):dops T X all l K σ:=run_dops hA n l [] σ σ' h ha
theorem gy (hA:A=std)(n:Nat){id:Nat}{ops:Array Oper}(ha:Q .normal σ')(h:runK A T false ops.toList n ops.toList σ=some ([],σ'):=by cbv):awp T X (.region id ops false) Q σ:=go_reg (run_aops hA n _ [] σ σ' h ha)
theorem gx (hA:A=std)(n:Nat){id:Nat}{ops:Array Oper}{b:Code}(ha:awp T X b Q σ')(h:runK A T false ops.toList n ops.toList σ=some ([],σ'):=by cbv):awp T X (.seq (.region id ops false) b) Q σ:=gs (go_reg (run_aops hA n _ [] σ σ' h ha))
theorem ow_ {R:Array Oper}{n:Nat}{L:List Bool}(h:dwp T X R K n L σ')(ht:tweak σ []=some σ':=by cbv):aops T X all [] (dwp T X R K n L) σ:=dwp_to [] ht rfl h
theorem rf {α:Sort _}{p:Prop}{x:α}(_:p):x=x:=rfl
theorem nf {p:Prop}(h:false=true):p:=by cases h
theorem cd {L:List Bool}{i n:Nat}(h0:nthB L i=false)(hn:cntF L=n+1)(hi:Nat.ble (i+1) L.length=true:=by exact rfl):cntF (setT L i)=n:=cnt_dec h0 (Nat.le_of_ble_eq_true hi) hn
theorem aq {R:Array Oper}{L:List Bool}{F:Nat→Oper→Prop}{i:Nat}{l ds:List Nat}{o:Oper}(h:nthB L i=false→allT L ds→F i o)(ht:allRdy R L F l)(ho:R[i]? =some o:=by exact rfl)(hd:depsE o.after.toList=ds:=by exact rfl):allRdy R L F (i::l):=allRdy_q ho hd h ht
theorem an {R:Array Oper}{L:List Bool}{F:Nat→Oper→Prop}{i:Nat}{l:List Nat}(ht:allRdy R L F l)(ho:rdyOp R L i=none:=by exact rfl):allRdy R L F (i::l):=allRdy_none ho ht
theorem gc {c:Operand}{x y:Code}{t:Bool}(h1:t=true→awp T X x Q σ)(h0:t=false→awp T X y Q σ)(hc:σ.get c=.bool t:=by exact rfl):awp T X (.cond c x y) Q σ:=go_cond hc h1 h0
theorem gt {α:Type}{f:Option α}{R:α→Prop}{vs:α}(k:R vs)(e:f=some vs:=by cbv):∃ vs,f=some vs∧R vs:=⟨vs,e,k⟩
theorem rt (h:Q .ret σ):awp T X .ret Q σ:=h
theorem no_t {x:Bool}{p:Prop}(h:x=true)(h2:x=false):p:=by rw[h] at h2;cases h2
theorem no_f {x:Bool}{p:Prop}(h:x=false)(h2:x=true):p:=by rw[h] at h2;cases h2
end
end Go.Av

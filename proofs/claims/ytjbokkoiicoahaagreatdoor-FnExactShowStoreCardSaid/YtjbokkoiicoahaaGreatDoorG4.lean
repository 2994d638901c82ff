/- Walks: ShowBox. -/
import Derived.Test.YtjbokkoiicoahaaGreatDoorG2
import Derived.Test.YtjbokkoiicoahaaGreatDoorG3
namespace Go.Av
open Go Go.Proofs
set_option maxRecDepth 100000
set_option maxHeartbeats 4000000
set_option linter.unusedVariables false
set_option linter.unusedSimpArgs false
def nlB :ByteArray:=ByteArray.mk #[10]
def headT (u n:ByteArray)(v x l:Int):ByteArray:=((((((((u++spB)++n)++spB)++figB v)++spB)++figB x)++spB)++itoaB l)++nlB
def mailT (m:GMail):ByteArray:=(((((spB++figB m.Uid)++spB)++flagW m.Flags)++spB)++itoaB (m.Text.size:Int))++nlB
def catM (h:ByteArray)(xs:List GMail):ByteArray:=xs.foldl (fun s m=>s++mailT m) h
def boxT (b:GBox):ByteArray:=catM (headT b.User b.Name b.Valid b.Next (List.length b.Mails:Int)) b.Mails
def rgMail (m:GMail):Prop:=i64 m.Uid∧i64 m.Flags
def rgBox (b:GBox):Prop:=i64 b.Valid∧i64 b.Next∧∀ m∈b.Mails,rgMail m
theorem catM_at {h:ByteArray}{xs:List GMail}{i:Nat}{x:GMail}(hx:xs[i]? =some x):catM h (xs.take (i+1))=catM h (xs.take i)++mailT x:=by
 rw[List.take_add_one,hx];simp[catM,List.foldl_append]
theorem bOf_toList (a:ByteArray):bOf a.data.toList=a:=by cases a;rfl
theorem join5 (a b c d e:ByteArray):joinB [a,b,c,d,e] spB=(((((((a++spB)++b)++spB)++c)++spB)++d)++spB)++e:=by
 have h:joinB [a,b,c,d,e] spB=bOf (a.data.toList++[32]++b.data.toList++[32]++c.data.toList++[32]++d.data.toList++[32]++e.data.toList):=by
  simp[joinB,Lib.join,List.intercalate,spB,bOf]
 have hs:bOf [32]=spB:=rfl
 rw[h]
 simp only[← bOf_app,bOf_toList,hs]
theorem sp1 :spB.size=1:=rfl
theorem nl1 :nlB.size=1:=rfl
theorem mailT_size {m:GMail}(h:rgMail m)(ht:m.Text.size≤1048576):(mailT m).size≤100:=by
 have h1:=figB_size m.Uid h.1
 have h2:=flagW_size m.Flags
 have h3:=itoaB_size (m.Text.size:Int) (by unfold i64;omega)
 unfold mailT
 simp only[ByteArray.size_append,sp1,nl1]
 omega
theorem headT_size {u n:ByteArray}{v x l:Int}(hu:u.size≤1048576)(hn:n.size≤1048576)(hv:i64 v)(hx:i64 x)(hl:i64 l):(headT u n v x l).size≤3000000:=by
 have h1:=figB_size v hv
 have h2:=figB_size x hx
 have h3:=itoaB_size l hl
 unfold headT
 simp only[ByteArray.size_append,sp1,nl1]
 omega
theorem catM_size {h:ByteArray}:∀(xs:List GMail),(∀ m∈xs,rgMail m∧m.Text.size≤1048576)→∀(h:ByteArray),(catM h xs).size≤h.size+100 * xs.length
 | [],_,h=>by simp[catM]
 | x::xs,hx,h=>by
  have h1:=catM_size (h:=h) xs (fun m hm=>hx m (List.mem_cons_of_mem _ hm)) (h++mailT x)
  have h2:=mailT_size (hx x List.mem_cons_self).1 (hx x List.mem_cons_self).2
  rw[ByteArray.size_append] at h1
  show(catM (h++mailT x) xs).size≤_
  rw[List.length_cons]
  omega
def S22_1 (p0:ByteArray)(p1:RR)(p2:Int)(p3:Int):St:={sl:=[.bad,.bad,.bad,.str p0,.bad,.bad,.bad,.bad,.bad,.bad,.bad,.bad,.bad,.bad,.bad,.bad,.bad,.bad,.bad,.bad,.bad,.bad,.bad,.bad,.sl 3 p1,.ii p2,.ii p3,.bad,.bad,.bad,.bad,.bad,.bad,.bad,.bad,.bad,.bad,.bad,.bad,.bad,.bad,.bad,.bad,.bad,.bad,.bad,.bad,.bad,.bad,.bad],bl:=[]}
theorem r_impl_ShowBox (A:Alg)(hA:A=std)(b:GBox)(hz:∀ q∈zsBox b,q≤1048576)(hr:rgBox b):Real Tryz.prog 22 [.agg (eBox b)] (.str (boxT b)):=by
 obtain⟨a3,a4,a5,a6,a2⟩:=b
 obtain⟨a1,d1⟩:=nm (a2.map eMail)
 have a0:=rlen_map hA d1
 refine real_args (args':=[.agg [.ii a3,.str a4,.str a5,.ii a6,.sl 3 a1]]) (by subst d1;rfl) ?_
 have i9:ByteArray.size a4≤1048576:=hz _ (by simp[zsBox])
 have i7:ByteArray.size a5≤1048576:=hz _ (by simp[zsBox])
 have f4:∀ q∈zsMailS a2,q≤1048576:=fun q hq=>hz q (by simp only[zsBox,List.mem_append];simp only[hq,true_or,or_true])
 have l5:List.length a2≤1048576:=f4 _ (by simp[zsMailS])
 have hmm:∀ m∈a2,rgMail m∧ByteArray.size m.Text≤1048576:=fun m hm=>⟨hr.2.2 m hm,f4 _ (List.mem_cons_of_mem _ (List.mem_flatMap.2 ⟨_,hm,by simp[zsMail]⟩))⟩
 have hv:i64 a3:=hr.1
 have hx:i64 a6:=hr.2.1
 have hln:i64 (List.length a2:Int):=by unfold i64;omega
 have hhd:=headT_size i9 i7 hv hx hln
 have z1:(ByteArray.mk #[32]).size=1:=rfl
 have z2:(ByteArray.mk #[10]).size=1:=rfl
 have hfv:=figB_size _ hv
 have hfx:=figB_size _ hx
 have hfl:=itoaB_size _ hln
 have o4:=figB_size _ hln
 refine real tyOk Tryz.func22 (by kernel_rfl) (afun_of rfl ?_)
 refine gx hA 2 ?_
 refine gs ?_
 obtain⟨f1,b2,hc2⟩:∃(f1:ByteArray),f1=(figB a3)∧Real Tryz.prog 42 [.ii a3] (.str f1):=⟨_,rfl,by exact r_impl_figures A hA a3 (by first | assumption | (unfold i64 at *;omega))⟩
 obtain⟨f0,b0,hc4⟩:∃(f0:ByteArray),f0=(figB a6)∧Real Tryz.prog 42 [.ii a6] (.str f0):=⟨_,rfl,by exact r_impl_figures A hA a6 (by first | assumption | (unfold i64 at *;omega))⟩
 obtain⟨e9,b1,hc6⟩:∃(e9:ByteArray),e9=(figB (A.rlen a1))∧Real Tryz.prog 42 [.ii (A.rlen a1)] (.str e9):=⟨_,rfl,by exact r_impl_figures A hA (A.rlen a1) (by first | assumption | (unfold i64 at *;omega))⟩
 obtain⟨r7,hr7⟩:=nm ([[.str a4],[.str a5],[.str f1],[.str f0],[.str e9]]:RR)
 have er7:r7=List.map eString ([a4,a5,f1,f0,e9]:List ByteArray):=by rw[hr7];rfl
 have lr7:=rlen_map hA er7
 obtain⟨c4,b3,hc9⟩:∃(c4:ByteArray),c4=(joinB ([a4,a5,f1,f0,e9]:List ByteArray) (ByteArray.mk #[32]))∧Real Tryz.prog 41 [.sl 1 (eraseR r7),.str (ByteArray.mk #[32])] (.str c4):=⟨_,rfl,by subst er7;simp only[erR_String];exact rJoin A hA ([a4,a5,f1,f0,e9]:List ByteArray) (ByteArray.mk #[32]) (by simp) (by
  show(joinB _ spB).size≤_
  rw[join5]
  simp only[b2,b0,b1,a0,lr7,ByteArray.size_append,sp1]
  omega)⟩
 obtain⟨s10,i0⟩:=nm (c4++(ByteArray.mk #[10]):ByteArray)
 have r0:ByteArray.size s10=ByteArray.size c4+ByteArray.size (ByteArray.mk #[10]):=by rw[i0];exact ByteArray.size_append
 have k7:ByteArray.size c4+ByteArray.size (ByteArray.mk #[10])≤140737488355328:=by
  have b9:=congrArg ByteArray.size b2
  try simp only[slen_eq hA,a0,lr7] at b9
  have c1:=congrArg ByteArray.size b0
  try simp only[slen_eq hA,a0,lr7] at c1
  have c2:=congrArg ByteArray.size b1
  try simp only[slen_eq hA,a0,lr7] at c2
  have f5:ByteArray.size c4≤3000000:=by
   rw[b3]
   show(joinB _ spB).size≤_
   rw[join5]
   simp only[b2,b0,b1,b3,a0,lr7,ByteArray.size_append,sp1]
   omega
  omega
 refine go_drawE [0,1,2,3,4,5,6,7,8,9,10,11,12,13,14,15,16,17] (by cbv) rfl rfl ({sl:=[.agg [.ii a3,.str a4,.str a5,.ii a6,.sl 3 a1],.pt 1 0 0,.str (ByteArray.mk #[]),.str s10,.bad,.bad,.pt 1 0 1,.str a4,.pt 1 0 2,.str a5,.pt 1 0 0,.ii a3,.str f1,.pt 1 0 3,.ii a6,.str f0,.pt 1 0 4,.sl 3 a1,.ii (A.rlen a1),.str e9,.own 20,.str c4,.str s10,.bad,.bad,.bad,.bad,.bad,.bad,.bad,.bad,.bad,.bad,.bad,.bad,.bad,.bad,.bad,.bad,.bad,.bad,.bad,.bad,.bad,.bad,.bad,.bad,.bad,.bad,.bad],bl:=[(1,⟨.var,5,[[.ii a3,.str a4,.str a5,.ii a6,.sl 3 a1]]⟩),(20,⟨.arr,1,r7⟩)]}:St) (fun dR dK dhR dhF=> ?_) ?_
 ·
  have q5:∀(dn:Nat) {f7 f6 g8:Bool} {j9 k0 j8:PV},(f7=true→j9=.str c4)→(f6=true→k0=.str s10)→(g8=true→j8=.str s10)→(f6=true→f7=true)→(g8=true→f6=true)→(g8=true→f7=true)→cntF [true,true,true,true,true,true,true,true,true,true,true,true,true,true,true,f7,f6,g8]=dn→dwp T ⟨Real Tryz.prog,RealM Tryz.prog,RealC Tryz.prog⟩ dR dK dn [true,true,true,true,true,true,true,true,true,true,true,true,true,true,true,f7,f6,g8] ({sl:=[.agg [.ii a3,.str a4,.str a5,.ii a6,.sl 3 a1],.pt 1 0 0,.str (ByteArray.mk #[]),j8,.bad,.bad,.pt 1 0 1,.str a4,.pt 1 0 2,.str a5,.pt 1 0 0,.ii a3,.str f1,.pt 1 0 3,.ii a6,.str f0,.pt 1 0 4,.sl 3 a1,.ii (A.rlen a1),.str e9,.own 20,j9,k0,.bad,.bad,.bad,.bad,.bad,.bad,.bad,.bad,.bad,.bad,.bad,.bad,.bad,.bad,.bad,.bad,.bad,.bad,.bad,.bad,.bad,.bad,.bad,.bad,.bad,.bad,.bad],bl:=[(1,⟨.var,5,[[.ii a3,.str a4,.str a5,.ii a6,.sl 3 a1]]⟩),(20,⟨.arr,1,r7⟩)]}:St):=by
   intro dn
   induction dn with
   | zero=>
    intro f7 f6 g8 j9 k0 j8 k3 j6 k1 j3 j4 m6 dhn
    have y15:f7=true:=cntF_zero _ dhn 15 (by show 15 < 18;decide)
    subst y15
    have y15:=k3 rfl
    subst y15
    have y16:f6=true:=cntF_zero _ dhn 16 (by show 16 < 18;decide)
    subst y16
    have y16:=j6 rfl
    subst y16
    have y17:g8=true:=cntF_zero _ dhn 17 (by show 17 < 18;decide)
    subst y17
    have y17:=k1 rfl
    subst y17
    exact dwp_last dhF
   | succ dn ih=>
    intro f7 f6 g8 j9 k0 j8 k3 j6 k1 j3 j4 m6 dhn
    subst dhR
    refine dwp_next (is:=[0,1,2,3,4,5,6,7,8,9,10,11,12,13,14,15,16,17]) rfl ?_
    refine an ?_
    refine an ?_
    refine an ?_
    refine an ?_
    refine an ?_
    refine an ?_
    refine an ?_
    refine an ?_
    refine an ?_
    refine an ?_
    refine an ?_
    refine an ?_
    refine an ?_
    refine an ?_
    refine an ?_
    refine aq (fun h0 h1=> ?_) ?_
    ·
     cases (show f7=false from h0)
     refine cvw hc9 (.inl trivial) ?_
     refine ow_ ?_
     exact ih rf j6 k1 rf j4 rf (cd h0 dhn)
    refine aq (fun h0 h1=> ?_) ?_
    ·
     cases (show f6=false from h0)
     obtain rfl:f7=true:=h1.1
     cases k3 rfl
     refine ops_step rfl rfl (str_add rfl rfl rfl i0 k7) ?_
     refine ow_ ?_
     exact ih rf rf k1 rf rf rf (cd h0 dhn)
    refine aq (fun h0 h1=> ?_) ?_
    ·
     cases (show g8=false from h0)
     obtain rfl:f6=true:=h1.1
     cases j6 rfl;cases j3 rfl;cases k3 rfl
     refine rn hA 1 ?_
     refine ow_ ?_
     exact ih rf rf rf rf rf rf (cd h0 dhn)
    exact trivial
  have H_:∀(dn:Nat) {dB0 dB1 dB2 dB3 dB4 dB5 dB6 dB7 dB8 dB9 i3 g7 g9 i1:Bool} {dQ0 dQ1 dQ2 dQ3 dQ4 dQ5 dQ6 dQ7 dQ8 dQ9 j5 j7 k2 k4:PV},(dB0=true→dQ0=.pt 1 0 1)→(dB1=true→dQ1=.str a4)→(dB2=true→dQ2=.pt 1 0 2)→(dB3=true→dQ3=.str a5)→(dB4=true→dQ4=.pt 1 0 0)→(dB5=true→dQ5=.ii a3)→(dB6=true→dQ6=.str f1)→(dB7=true→dQ7=.pt 1 0 3)→(dB8=true→dQ8=.ii a6)→(dB9=true→dQ9=.str f0)→(i3=true→j5=.pt 1 0 4)→(g7=true→j7=.sl 3 a1)→(g9=true→k2=.ii (A.rlen a1))→(i1=true→k4=.str e9)→(dB1=true→dB0=true)→(dB3=true→dB2=true)→(dB5=true→dB4=true)→(dB6=true→dB5=true)→(dB8=true→dB7=true)→(dB9=true→dB8=true)→(dB9=true→dB6=true)→(g7=true→i3=true)→(g9=true→g7=true)→(i1=true→g9=true)→(i1=true→dB9=true)→cntF [dB0,dB1,dB2,dB3,dB4,dB5,dB6,dB7,dB8,dB9,i3,g7,g9,i1,false,false,false,false]=dn→dwp T ⟨Real Tryz.prog,RealM Tryz.prog,RealC Tryz.prog⟩ dR dK dn [dB0,dB1,dB2,dB3,dB4,dB5,dB6,dB7,dB8,dB9,i3,g7,g9,i1,false,false,false,false] ({sl:=[.agg [.ii a3,.str a4,.str a5,.ii a6,.sl 3 a1],.pt 1 0 0,.str (ByteArray.mk #[]),.bad,.bad,.bad,dQ0,dQ1,dQ2,dQ3,dQ4,dQ5,dQ6,dQ7,dQ8,dQ9,j5,j7,k2,k4,.bad,.bad,.bad,.bad,.bad,.bad,.bad,.bad,.bad,.bad,.bad,.bad,.bad,.bad,.bad,.bad,.bad,.bad,.bad,.bad,.bad,.bad,.bad,.bad,.bad,.bad,.bad,.bad,.bad,.bad],bl:=[(1,⟨.var,5,[[.ii a3,.str a4,.str a5,.ii a6,.sl 3 a1]]⟩)]}:St):=by
   intro dn
   induction dn with
   | zero=>
    intro dB0 dB1 dB2 dB3 dB4 dB5 dB6 dB7 dB8 dB9 i3 g7 g9 i1 dQ0 dQ1 dQ2 dQ3 dQ4 dQ5 dQ6 dQ7 dQ8 dQ9 j5 j7 k2 k4 dh0 dh1 dh2 dh3 dh4 dh5 dh6 dh7 dh8 dh9 e3 e4 e5 e2 d5 d7 d2 d3 d6 d4 e1 b7 b5 b6 c9 dhn
    exact absurd (show false=true from cntF_zero _ dhn 14 (by show 14 < 18;decide)) (by decide)
   | succ dn ih=>
    intro dB0 dB1 dB2 dB3 dB4 dB5 dB6 dB7 dB8 dB9 i3 g7 g9 i1 dQ0 dQ1 dQ2 dQ3 dQ4 dQ5 dQ6 dQ7 dQ8 dQ9 j5 j7 k2 k4 dh0 dh1 dh2 dh3 dh4 dh5 dh6 dh7 dh8 dh9 e3 e4 e5 e2 d5 d7 d2 d3 d6 d4 e1 b7 b5 b6 c9 dhn
    subst dhR
    refine dwp_next (is:=[0,1,2,3,4,5,6,7,8,9,10,11,12,13,14,15,16,17]) rfl ?_
    refine aq (fun h0 h1=> ?_) ?_
    ·
     cases (show dB0=false from h0)
     refine rn hA 1 ?_
     refine ow_ ?_
     exact ih rf dh1 dh2 dh3 dh4 dh5 dh6 dh7 dh8 dh9 e3 e4 e5 e2 rf d7 d2 d3 d6 d4 e1 b7 b5 b6 c9 (cd h0 dhn)
    refine aq (fun h0 h1=> ?_) ?_
    ·
     cases (show dB1=false from h0)
     obtain rfl:dB0=true:=h1.1
     cases dh0 rfl
     refine rn hA 1 ?_
     refine ow_ ?_
     exact ih rf rf dh2 dh3 dh4 dh5 dh6 dh7 dh8 dh9 e3 e4 e5 e2 rf d7 d2 d3 d6 d4 e1 b7 b5 b6 c9 (cd h0 dhn)
    refine aq (fun h0 h1=> ?_) ?_
    ·
     cases (show dB2=false from h0)
     refine rn hA 1 ?_
     refine ow_ ?_
     exact ih dh0 dh1 rf dh3 dh4 dh5 dh6 dh7 dh8 dh9 e3 e4 e5 e2 d5 rf d2 d3 d6 d4 e1 b7 b5 b6 c9 (cd h0 dhn)
    refine aq (fun h0 h1=> ?_) ?_
    ·
     cases (show dB3=false from h0)
     obtain rfl:dB2=true:=h1.1
     cases dh2 rfl
     refine rn hA 1 ?_
     refine ow_ ?_
     exact ih dh0 dh1 rf rf dh4 dh5 dh6 dh7 dh8 dh9 e3 e4 e5 e2 d5 rf d2 d3 d6 d4 e1 b7 b5 b6 c9 (cd h0 dhn)
    refine aq (fun h0 h1=> ?_) ?_
    ·
     cases (show dB4=false from h0)
     refine rn hA 1 ?_
     refine ow_ ?_
     exact ih dh0 dh1 dh2 dh3 rf dh5 dh6 dh7 dh8 dh9 e3 e4 e5 e2 d5 d7 rf d3 d6 d4 e1 b7 b5 b6 c9 (cd h0 dhn)
    refine aq (fun h0 h1=> ?_) ?_
    ·
     cases (show dB5=false from h0)
     obtain rfl:dB4=true:=h1.1
     cases dh4 rfl
     refine rn hA 1 ?_
     refine ow_ ?_
     exact ih dh0 dh1 dh2 dh3 rf rf dh6 dh7 dh8 dh9 e3 e4 e5 e2 d5 d7 rf rf d6 d4 e1 b7 b5 b6 c9 (cd h0 dhn)
    refine aq (fun h0 h1=> ?_) ?_
    ·
     cases (show dB6=false from h0)
     obtain rfl:dB5=true:=h1.1
     cases dh5 rfl;cases d2 rfl;cases dh4 rfl
     refine cvw hc2 (.inr rfl) ?_
     refine ow_ ?_
     exact ih dh0 dh1 dh2 dh3 rf rf rf dh7 dh8 dh9 e3 e4 e5 e2 d5 d7 rf rf d6 d4 rf b7 b5 b6 c9 (cd h0 dhn)
    refine aq (fun h0 h1=> ?_) ?_
    ·
     cases (show dB7=false from h0)
     refine rn hA 1 ?_
     refine ow_ ?_
     exact ih dh0 dh1 dh2 dh3 dh4 dh5 dh6 rf dh8 dh9 e3 e4 e5 e2 d5 d7 d2 d3 rf d4 e1 b7 b5 b6 c9 (cd h0 dhn)
    refine aq (fun h0 h1=> ?_) ?_
    ·
     cases (show dB8=false from h0)
     obtain rfl:dB7=true:=h1.1
     cases dh7 rfl
     refine rn hA 1 ?_
     refine ow_ ?_
     exact ih dh0 dh1 dh2 dh3 dh4 dh5 dh6 rf rf dh9 e3 e4 e5 e2 d5 d7 d2 d3 rf rf e1 b7 b5 b6 c9 (cd h0 dhn)
    refine aq (fun h0 h1=> ?_) ?_
    ·
     cases (show dB9=false from h0)
     obtain rfl:dB8=true:=h1.1
     cases dh8 rfl;cases d6 rfl;cases dh7 rfl
     obtain rfl:dB6=true:=h1.2.1
     cases dh6 rfl;cases d3 rfl;cases dh5 rfl;cases d2 rfl;cases dh4 rfl
     refine cvw hc4 (.inr rfl) ?_
     refine ow_ ?_
     exact ih dh0 dh1 dh2 dh3 rf rf rf rf rf rf e3 e4 e5 e2 d5 d7 rf rf rf rf rf b7 b5 b6 rf (cd h0 dhn)
    refine aq (fun h0 h1=> ?_) ?_
    ·
     cases (show i3=false from h0)
     refine rn hA 1 ?_
     refine ow_ ?_
     exact ih dh0 dh1 dh2 dh3 dh4 dh5 dh6 dh7 dh8 dh9 rf e4 e5 e2 d5 d7 d2 d3 d6 d4 e1 rf b5 b6 c9 (cd h0 dhn)
    refine aq (fun h0 h1=> ?_) ?_
    ·
     cases (show g7=false from h0)
     obtain rfl:i3=true:=h1.1
     cases e3 rfl
     refine rn hA 1 ?_
     refine ow_ ?_
     exact ih dh0 dh1 dh2 dh3 dh4 dh5 dh6 dh7 dh8 dh9 rf rf e5 e2 d5 d7 d2 d3 d6 d4 e1 rf rf b6 c9 (cd h0 dhn)
    refine aq (fun h0 h1=> ?_) ?_
    ·
     cases (show g9=false from h0)
     obtain rfl:g7=true:=h1.1
     cases e4 rfl;cases b7 rfl;cases e3 rfl
     refine rn hA 1 ?_
     refine ow_ ?_
     exact ih dh0 dh1 dh2 dh3 dh4 dh5 dh6 dh7 dh8 dh9 rf rf rf e2 d5 d7 d2 d3 d6 d4 e1 rf rf rf c9 (cd h0 dhn)
    refine aq (fun h0 h1=> ?_) ?_
    ·
     cases (show i1=false from h0)
     obtain rfl:g9=true:=h1.1
     cases e5 rfl;cases b5 rfl;cases e4 rfl;cases b7 rfl;cases e3 rfl
     obtain rfl:dB9=true:=h1.2.1
     cases dh9 rfl;cases d4 rfl;cases dh8 rfl;cases d6 rfl;cases dh7 rfl;cases e1 rfl;cases dh6 rfl;cases d3 rfl;cases dh5 rfl;cases d2 rfl;cases dh4 rfl
     refine cvw hc6 (.inr rfl) ?_
     refine ow_ ?_
     exact ih dh0 dh1 dh2 dh3 rf rf rf rf rf rf rf rf rf rf d5 d7 rf rf rf rf rf rf rf rf rf (cd h0 dhn)
    refine aq (fun h0 h1=> ?_) ?_
    ·
     obtain rfl:dB1=true:=h1.1
     cases dh1 rfl;cases d5 rfl;cases dh0 rfl
     obtain rfl:dB3=true:=h1.2.1
     cases dh3 rfl;cases d7 rfl;cases dh2 rfl
     obtain rfl:dB6=true:=h1.2.2.1
     cases dh6 rfl;cases d3 rfl;cases dh5 rfl;cases d2 rfl;cases dh4 rfl
     obtain rfl:dB9=true:=h1.2.2.2.1
     cases dh9 rfl;cases d4 rfl;cases dh8 rfl;cases d6 rfl;cases dh7 rfl
     obtain rfl:i1=true:=h1.2.2.2.2.1
     cases e2 rfl;cases b6 rfl;cases e5 rfl;cases b5 rfl;cases e4 rfl;cases b7 rfl;cases e3 rfl
     refine ops_ext rfl (ext_lit rfl rfl rfl rfl rfl rfl rfl hr7) ?_
     refine ops_done (dwp_to [.up 20,.up 1] (by cbv) rfl ?_)
     exact q5 dn nf nf nf nf nf nf (cd h0 dhn)
    refine allRdy_q rfl rfl (fun _ h1=>absurd (show false=true from h1.1) (by decide)) ?_
    refine allRdy_q rfl rfl (fun _ h1=>absurd (show false=true from h1.1) (by decide)) ?_
    refine allRdy_q rfl rfl (fun _ h1=>absurd (show false=true from h1.1) (by decide)) ?_
    exact trivial
  exact dwp_to [] (by cbv) rfl (@H_ 18 false false false false false false false false false false false false false false (.bad) (.bad) (.bad) (.bad) (.bad) (.bad) (.bad) (.bad) (.bad) (.bad) (.bad) (.bad) (.bad) (.bad) nf nf nf nf nf nf nf nf nf nf nf nf nf nf nf nf nf nf nf nf nf nf nf nf nf rfl)
 refine gs (gx hA 4 ?_)
 refine go_block ?_
 refine go_loopE (fun σ m=>∃(i:Nat) (n:Int) (S:ByteArray),σ=(S22_1 S a1 (A.rlen a1) n)∧(n=(i:Int)∧i≤List.length a2∧S=catM (headT a4 a5 a3 a6 (List.length a2:Int)) (a2.take i))∧m=List.length a2 - i) _ [.up 20,.up 1] [3,24,25,26] [] (S22_1 s10 a1 (A.rlen a1) 0) rfl (by cbv) ⟨0,0,s10,rfl,?_,rfl⟩ (fun σ m hI=> ?_)
 ·
  refine⟨rfl,Nat.zero_le _,?_⟩
  show _=headT a4 a5 a3 a6 (List.length a2:Int)
  simp only[i0,b2,b0,b1,b3,slen_eq hA,a0,lr7]
  rw[figB_nn (n:=(List.length a2:Int)) (by omega)]
  exact congrArg (·++nlB) (join5 _ _ _ _ _)
 obtain⟨i,n,S,rfl,⟨hn,hi,hS⟩,rfl⟩:=hI
 have hSz:ByteArray.size S≤200000000:=by
  have:=catM_size (h:=S) (a2.take i) (fun m hm=>hmm m (List.mem_of_mem_take hm)) (headT a4 a5 a3 a6 (List.length a2:Int))
  rw[← hS,List.length_take] at this
  omega
 refine gx hA 1 ?_
 refine gs ?_
 refine gc (fun c11=> ?_) (fun c11=> ?_)
 ·
  have o2:n < (A.rlen a1):=lss_t hA c11
  refine gk (gs ?_)
  refine go_block ?_
  refine gs (gr ?_)
  have n2:(0:Int)≤n:=by
   omega
  have n7:(Int.toNat n) < List.length a2:=by
   omega
  obtain⟨x12,l4⟩:∃ x,(a2)[(Int.toNat n)]? =some x:=⟨_,List.getElem?_eq_getElem n7⟩
  have m5:=List.mem_of_getElem? l4
  obtain⟨f2,d9,c3⟩:=x12
  have n3:a1[(Int.toNat n)]? =some [.ii f2,.ii d9,.str c3]:=by
   exact map_at eMail d1 l4
  have j1:=l4
  rw[hn] at j1
  have j1:(a2)[i]? =some (⟨f2,d9,c3⟩:GMail):=j1
  have n1:i64 f2∧i64 d9:=(hmm _ m5).1
  obtain⟨m8,r5⟩:=n1
  have s9:ByteArray.size c3≤1048576:=(hmm _ m5).2
  have n8:=slen_eq hA c3
  have r3:=figB_size _ m8
  have r9:=flagW_size d9
  have s4:=itoaB_size (ByteArray.size c3:Int) (by unfold i64;omega)
  have r6:=figB_size (ByteArray.size c3:Int) (by unfold i64;omega)
  refine ops_step rfl rfl (idx_sl rfl rfl rfl rfl rfl n2 rfl n3) ?_
  refine rz hA 3 ?_
  refine go_draw [0,1,2,3,4,5,6,7,8,9,10,11,12,13,14,15,16,17,18] (by cbv) ?_
  refine dn_ hA 3 ?_
  obtain⟨f9,b4,q0⟩:∃(f9:ByteArray),f9=(figB f2)∧Real Tryz.prog 42 [.ii f2] (.str f9):=⟨_,rfl,by exact r_impl_figures A hA f2 (by first | assumption | (unfold i64 at *;omega))⟩
  refine dops_callV rfl rfl (by cbv) (by cbv) q0 (.inr rfl) ?_
  obtain⟨s15,i2⟩:=nm ((ByteArray.mk #[32])++f9:ByteArray)
  have q1:ByteArray.size s15=ByteArray.size (ByteArray.mk #[32])+ByteArray.size f9:=by rw[i2];exact ByteArray.size_append
  have m1:ByteArray.size (ByteArray.mk #[32])+ByteArray.size f9≤140737488355328:=by
   have b9:=congrArg ByteArray.size b2
   try simp only[slen_eq hA,a0,lr7] at b9
   have c1:=congrArg ByteArray.size b0
   try simp only[slen_eq hA,a0,lr7] at c1
   have c2:=congrArg ByteArray.size b1
   try simp only[slen_eq hA,a0,lr7] at c2
   have f5:ByteArray.size c4≤3000000:=by
    rw[b3]
    show(joinB _ spB).size≤_
    rw[join5]
    simp only[b2,b0,b1,b3,b4,a0,lr7,ByteArray.size_append,sp1]
    omega
   have b8:=congrArg ByteArray.size b4
   try simp only[slen_eq hA,a0,lr7] at b8
   omega
  refine dops_step rfl rfl rfl (str_add rfl rfl rfl i2 m1) ?_
  obtain⟨s16,l6⟩:=nm (s15++(ByteArray.mk #[32]):ByteArray)
  have t3:ByteArray.size s16=ByteArray.size s15+ByteArray.size (ByteArray.mk #[32]):=by rw[l6];exact ByteArray.size_append
  have q9:ByteArray.size s15+ByteArray.size (ByteArray.mk #[32])≤140737488355328:=by
   have b9:=congrArg ByteArray.size b2
   try simp only[slen_eq hA,a0,lr7] at b9
   have c1:=congrArg ByteArray.size b0
   try simp only[slen_eq hA,a0,lr7] at c1
   have c2:=congrArg ByteArray.size b1
   try simp only[slen_eq hA,a0,lr7] at c2
   have f5:ByteArray.size c4≤3000000:=by
    rw[b3]
    show(joinB _ spB).size≤_
    rw[join5]
    simp only[b2,b0,b1,b3,b4,a0,lr7,ByteArray.size_append,sp1]
    omega
   have b8:=congrArg ByteArray.size b4
   try simp only[slen_eq hA,a0,lr7] at b8
   omega
  refine dops_step rfl rfl rfl (str_add rfl rfl rfl l6 q9) ?_
  refine dn_ hA 2 ?_
  obtain⟨f8,c8,n9⟩:∃(f8:ByteArray),f8=(flagW d9)∧Real Tryz.prog 43 [.ii d9] (.str f8):=⟨_,rfl,by exact r_impl_FlagWords A hA d9 (by assumption)⟩
  refine dops_callV rfl rfl (by cbv) (by cbv) n9 (.inr rfl) ?_
  obtain⟨s19,m0⟩:=nm (s16++f8:ByteArray)
  have t8:ByteArray.size s19=ByteArray.size s16+ByteArray.size f8:=by rw[m0];exact ByteArray.size_append
  have o0:ByteArray.size s16+ByteArray.size f8≤140737488355328:=by
   have b9:=congrArg ByteArray.size b2
   try simp only[slen_eq hA,a0,lr7] at b9
   have c1:=congrArg ByteArray.size b0
   try simp only[slen_eq hA,a0,lr7] at c1
   have c2:=congrArg ByteArray.size b1
   try simp only[slen_eq hA,a0,lr7] at c2
   have f5:ByteArray.size c4≤3000000:=by
    rw[b3]
    show(joinB _ spB).size≤_
    rw[join5]
    simp only[b2,b0,b1,b3,b4,c8,a0,lr7,ByteArray.size_append,sp1]
    omega
   have b8:=congrArg ByteArray.size b4
   try simp only[slen_eq hA,a0,lr7] at b8
   have e0:=congrArg ByteArray.size c8
   try simp only[slen_eq hA,a0,lr7] at e0
   omega
  refine dops_step rfl rfl rfl (str_add rfl rfl rfl m0 o0) ?_
  obtain⟨s20,l1⟩:=nm (s19++(ByteArray.mk #[32]):ByteArray)
  have t9:ByteArray.size s20=ByteArray.size s19+ByteArray.size (ByteArray.mk #[32]):=by rw[l1];exact ByteArray.size_append
  have p9:ByteArray.size s19+ByteArray.size (ByteArray.mk #[32])≤140737488355328:=by
   have b9:=congrArg ByteArray.size b2
   try simp only[slen_eq hA,a0,lr7] at b9
   have c1:=congrArg ByteArray.size b0
   try simp only[slen_eq hA,a0,lr7] at c1
   have c2:=congrArg ByteArray.size b1
   try simp only[slen_eq hA,a0,lr7] at c2
   have f5:ByteArray.size c4≤3000000:=by
    rw[b3]
    show(joinB _ spB).size≤_
    rw[join5]
    simp only[b2,b0,b1,b3,b4,c8,a0,lr7,ByteArray.size_append,sp1]
    omega
   have b8:=congrArg ByteArray.size b4
   try simp only[slen_eq hA,a0,lr7] at b8
   have e0:=congrArg ByteArray.size c8
   try simp only[slen_eq hA,a0,lr7] at e0
   omega
  refine dops_step rfl rfl rfl (str_add rfl rfl rfl l1 p9) ?_
  refine dn_ hA 3 ?_
  obtain⟨g5,e6,p8⟩:∃(g5:ByteArray),g5=(figB (A.slen c3))∧Real Tryz.prog 42 [.ii (A.slen c3)] (.str g5):=⟨_,rfl,by exact r_impl_figures A hA (A.slen c3) (by first | assumption | (unfold i64 at *;omega))⟩
  refine dops_callV rfl rfl (by cbv) (by cbv) p8 (.inr rfl) ?_
  obtain⟨s23,l8⟩:=nm (s20++g5:ByteArray)
  have u0:ByteArray.size s23=ByteArray.size s20+ByteArray.size g5:=by rw[l8];exact ByteArray.size_append
  have r1:ByteArray.size s20+ByteArray.size g5≤140737488355328:=by
   have b9:=congrArg ByteArray.size b2
   try simp only[slen_eq hA,a0,lr7] at b9
   have c1:=congrArg ByteArray.size b0
   try simp only[slen_eq hA,a0,lr7] at c1
   have c2:=congrArg ByteArray.size b1
   try simp only[slen_eq hA,a0,lr7] at c2
   have f5:ByteArray.size c4≤3000000:=by
    rw[b3]
    show(joinB _ spB).size≤_
    rw[join5]
    simp only[b2,b0,b1,b3,b4,c8,e6,a0,lr7,ByteArray.size_append,sp1]
    omega
   have b8:=congrArg ByteArray.size b4
   try simp only[slen_eq hA,a0,lr7] at b8
   have e0:=congrArg ByteArray.size c8
   try simp only[slen_eq hA,a0,lr7] at e0
   have g6:=congrArg ByteArray.size e6
   try simp only[slen_eq hA,a0,lr7] at g6
   omega
  refine dops_step rfl rfl rfl (str_add rfl rfl rfl l8 r1) ?_
  obtain⟨s24,l9⟩:=nm (s23++(ByteArray.mk #[10]):ByteArray)
  have t4:ByteArray.size s24=ByteArray.size s23+ByteArray.size (ByteArray.mk #[10]):=by rw[l9];exact ByteArray.size_append
  have o1:ByteArray.size s23+ByteArray.size (ByteArray.mk #[10])≤140737488355328:=by
   have b9:=congrArg ByteArray.size b2
   try simp only[slen_eq hA,a0,lr7] at b9
   have c1:=congrArg ByteArray.size b0
   try simp only[slen_eq hA,a0,lr7] at c1
   have c2:=congrArg ByteArray.size b1
   try simp only[slen_eq hA,a0,lr7] at c2
   have f5:ByteArray.size c4≤3000000:=by
    rw[b3]
    show(joinB _ spB).size≤_
    rw[join5]
    simp only[b2,b0,b1,b3,b4,c8,e6,a0,lr7,ByteArray.size_append,sp1]
    omega
   have b8:=congrArg ByteArray.size b4
   try simp only[slen_eq hA,a0,lr7] at b8
   have e0:=congrArg ByteArray.size c8
   try simp only[slen_eq hA,a0,lr7] at e0
   have g6:=congrArg ByteArray.size e6
   try simp only[slen_eq hA,a0,lr7] at g6
   omega
  refine dops_step rfl rfl rfl (str_add rfl rfl rfl l9 o1) ?_
  obtain⟨s25,i6⟩:=nm (S++s24:ByteArray)
  have o9:ByteArray.size s25=ByteArray.size S+ByteArray.size s24:=by rw[i6];exact ByteArray.size_append
  have k8:ByteArray.size S+ByteArray.size s24≤140737488355328:=by
   have b9:=congrArg ByteArray.size b2
   try simp only[slen_eq hA,a0,lr7] at b9
   have c1:=congrArg ByteArray.size b0
   try simp only[slen_eq hA,a0,lr7] at c1
   have c2:=congrArg ByteArray.size b1
   try simp only[slen_eq hA,a0,lr7] at c2
   have f5:ByteArray.size c4≤3000000:=by
    rw[b3]
    show(joinB _ spB).size≤_
    rw[join5]
    simp only[b2,b0,b1,b3,b4,c8,e6,a0,lr7,ByteArray.size_append,sp1]
    omega
   have b8:=congrArg ByteArray.size b4
   try simp only[slen_eq hA,a0,lr7] at b8
   have e0:=congrArg ByteArray.size c8
   try simp only[slen_eq hA,a0,lr7] at e0
   have g6:=congrArg ByteArray.size e6
   try simp only[slen_eq hA,a0,lr7] at g6
   omega
  refine dops_step rfl rfl rfl (str_add rfl rfl rfl i6 k8) ?_
  refine dz hA 1 ?_
  refine gy hA 2 ?_
  refine⟨(S22_1 s25 a1 (A.rlen a1) (A.num .add .i64 n 1)),List.length a2 - (i+1),?_,by cbv,i+1,(A.num .add .i64 n 1),s25,rfl,?_,rfl⟩
  ·
   omega
  refine⟨by rw[add_i64 hA (by omega) (by omega)];omega,by omega,?_⟩
  rw[catM_at j1,← hS]
  simp only[i6,l9,l8,l1,m0,l6,i2,i0,b2,b0,b1,b3,b4,c8,e6,n8]
  rw[figB_nn (n:=(ByteArray.size c3:Int)) (by omega)]
  simp only[mailT,spB,nlB,ByteArray.append_assoc]
 have o2:(A.rlen a1)≤n:=lss_f hA c11
 refine go_exit ⟨fun _=> ?_,fun h=>absurd rfl h⟩
 refine gx hA 2 ?_
 refine rt (gt ?_)
 refine congrArg PV.str ?_
 rw[hS,List.take_of_length_le (by omega)];rfl
def S15_1 (p0:ByteArray)(p1:Int)(p2:Int)(p3:ByteArray)(p4:ByteArray)(p5:Int)(p6:RR):St:={sl:=[.bad,.pt 1 0 0,.bad,.str p0,.ii p1,.bad,.bad,.bad,.bad,.bad,.bad,.bad,.bad,.bad,.bad,.bad,.bad,.bad,.bad,.bad,.bad,.bad,.bad,.bad,.bad,.bad,.bad,.bad,.bad,.bad,.bad,.bad,.bad,.bad,.bad,.bad,.bad,.bad,.bad,.bad,.bad,.bad,.bad,.bad,.bad,.bad,.bad,.bad,.bad,.bad,.bad,.bad,.bad,.bad,.bad,.bad,.bad,.bad,.bad,.bad],bl:=[(1,⟨.var,5,[[.ii p2,.str p3,.str p4,.ii p5,.sl 3 p6]]⟩)]}
theorem r_spec_ShowBox (A:Alg)(hA:A=std)(b:GBox)(hz:∀ q∈zsBox b,q≤1048576)(hr:rgBox b):Real Tryz.prog 15 [.agg (eBox b)] (.str (boxT b)):=by
 obtain⟨a3,a4,a5,a6,a2⟩:=b
 obtain⟨a1,d1⟩:=nm (a2.map eMail)
 have a0:=rlen_map hA d1
 refine real_args (args':=[.agg [.ii a3,.str a4,.str a5,.ii a6,.sl 3 a1]]) (by subst d1;rfl) ?_
 have i9:ByteArray.size a4≤1048576:=hz _ (by simp[zsBox])
 have i7:ByteArray.size a5≤1048576:=hz _ (by simp[zsBox])
 have f4:∀ q∈zsMailS a2,q≤1048576:=fun q hq=>hz q (by simp only[zsBox,List.mem_append];simp only[hq,true_or,or_true])
 have l5:List.length a2≤1048576:=f4 _ (by simp[zsMailS])
 have hmm:∀ m∈a2,rgMail m∧ByteArray.size m.Text≤1048576:=fun m hm=>⟨hr.2.2 m hm,f4 _ (List.mem_cons_of_mem _ (List.mem_flatMap.2 ⟨_,hm,by simp[zsMail]⟩))⟩
 have hv:i64 a3:=hr.1
 have hx:i64 a6:=hr.2.1
 have hln:i64 (List.length a2:Int):=by unfold i64;omega
 have hhd:=headT_size i9 i7 hv hx hln
 have z1:(ByteArray.mk #[32]).size=1:=rfl
 have z2:(ByteArray.mk #[10]).size=1:=rfl
 have hfv:=figB_size _ hv
 have hfx:=figB_size _ hx
 have hfl:=itoaB_size _ hln
 have o4:=figB_size _ hln
 refine real tyOk Tryz.func15 (by kernel_rfl) (afun_of rfl ?_)
 refine gx hA 2 ?_
 refine gs ?_
 refine go_draw [0,1,2,3,4,5,6,7,8,9,10,11,12,13,14,15,16,17,18,19,20,21,22,23] (by cbv) ?_
 refine dn_ hA 2 ?_
 obtain⟨s1,hs1⟩:=nm (a4++(ByteArray.mk #[32]):ByteArray)
 have zs1:ByteArray.size s1=ByteArray.size a4+ByteArray.size (ByteArray.mk #[32]):=by rw[hs1];exact ByteArray.size_append
 have bs1:ByteArray.size a4+ByteArray.size (ByteArray.mk #[32])≤140737488355328:=by
  omega
 refine dops_step rfl rfl rfl (str_add rfl rfl rfl hs1 bs1) ?_
 refine dn_ hA 2 ?_
 obtain⟨s2,hs2⟩:=nm (s1++a5:ByteArray)
 have zs2:ByteArray.size s2=ByteArray.size s1+ByteArray.size a5:=by rw[hs2];exact ByteArray.size_append
 have bs2:ByteArray.size s1+ByteArray.size a5≤140737488355328:=by
  omega
 refine dops_step rfl rfl rfl (str_add rfl rfl rfl hs2 bs2) ?_
 obtain⟨s3,hs3⟩:=nm (s2++(ByteArray.mk #[32]):ByteArray)
 have zs3:ByteArray.size s3=ByteArray.size s2+ByteArray.size (ByteArray.mk #[32]):=by rw[hs3];exact ByteArray.size_append
 have bs3:ByteArray.size s2+ByteArray.size (ByteArray.mk #[32])≤140737488355328:=by
  omega
 refine dops_step rfl rfl rfl (str_add rfl rfl rfl hs3 bs3) ?_
 refine dn_ hA 2 ?_
 obtain⟨i5,c0,hc5⟩:∃(i5:ByteArray),i5=(figB a3)∧Real Tryz.prog 31 [.ii a3] (.str i5):=⟨_,rfl,by exact r_spec_l20Num A hA a3 (by first | assumption | (unfold i64 at *;omega))⟩
 refine dops_callV rfl rfl (by cbv) (by cbv) hc5 (.inr rfl) ?_
 obtain⟨s6,hs6⟩:=nm (s3++i5:ByteArray)
 have zs6:ByteArray.size s6=ByteArray.size s3+ByteArray.size i5:=by rw[hs6];exact ByteArray.size_append
 have bs6:ByteArray.size s3+ByteArray.size i5≤140737488355328:=by
  have a7:=congrArg ByteArray.size c0
  try simp only[slen_eq hA,a0] at a7
  omega
 refine dops_step rfl rfl rfl (str_add rfl rfl rfl hs6 bs6) ?_
 obtain⟨s7,hs7⟩:=nm (s6++(ByteArray.mk #[32]):ByteArray)
 have zs7:ByteArray.size s7=ByteArray.size s6+ByteArray.size (ByteArray.mk #[32]):=by rw[hs7];exact ByteArray.size_append
 have bs7:ByteArray.size s6+ByteArray.size (ByteArray.mk #[32])≤140737488355328:=by
  have a7:=congrArg ByteArray.size c0
  try simp only[slen_eq hA,a0] at a7
  omega
 refine dops_step rfl rfl rfl (str_add rfl rfl rfl hs7 bs7) ?_
 refine dn_ hA 2 ?_
 obtain⟨i4,c6,hc9⟩:∃(i4:ByteArray),i4=(figB a6)∧Real Tryz.prog 31 [.ii a6] (.str i4):=⟨_,rfl,by exact r_spec_l20Num A hA a6 (by first | assumption | (unfold i64 at *;omega))⟩
 refine dops_callV rfl rfl (by cbv) (by cbv) hc9 (.inr rfl) ?_
 obtain⟨s10,i0⟩:=nm (s7++i4:ByteArray)
 have r0:ByteArray.size s10=ByteArray.size s7+ByteArray.size i4:=by rw[i0];exact ByteArray.size_append
 have k7:ByteArray.size s7+ByteArray.size i4≤140737488355328:=by
  have a7:=congrArg ByteArray.size c0
  try simp only[slen_eq hA,a0] at a7
  have a8:=congrArg ByteArray.size c6
  try simp only[slen_eq hA,a0] at a8
  omega
 refine dops_step rfl rfl rfl (str_add rfl rfl rfl i0 k7) ?_
 obtain⟨s11,k5⟩:=nm (s10++(ByteArray.mk #[32]):ByteArray)
 have t1:ByteArray.size s11=ByteArray.size s10+ByteArray.size (ByteArray.mk #[32]):=by rw[k5];exact ByteArray.size_append
 have q7:ByteArray.size s10+ByteArray.size (ByteArray.mk #[32])≤140737488355328:=by
  have a7:=congrArg ByteArray.size c0
  try simp only[slen_eq hA,a0] at a7
  have a8:=congrArg ByteArray.size c6
  try simp only[slen_eq hA,a0] at a8
  omega
 refine dops_step rfl rfl rfl (str_add rfl rfl rfl k5 q7) ?_
 refine dn_ hA 3 ?_
 obtain⟨g1,c5,o7⟩:∃(g1:ByteArray),g1=(itoaB (A.rlen a1))∧Real Tryz.prog 11 [.ii (A.rlen a1)] (.str g1):=⟨_,rfl,by exact r_spec_Decimal A hA (A.rlen a1) (by unfold i64 at *;omega)⟩
 refine dops_callV rfl rfl (by cbv) (by cbv) o7 (.inr rfl) ?_
 obtain⟨s14,k6⟩:=nm (s11++g1:ByteArray)
 have t2:ByteArray.size s14=ByteArray.size s11+ByteArray.size g1:=by rw[k6];exact ByteArray.size_append
 have o3:ByteArray.size s11+ByteArray.size g1≤140737488355328:=by
  have a7:=congrArg ByteArray.size c0
  try simp only[slen_eq hA,a0] at a7
  have a8:=congrArg ByteArray.size c6
  try simp only[slen_eq hA,a0] at a8
  have a9:=congrArg ByteArray.size c5
  try simp only[slen_eq hA,a0] at a9
  omega
 refine dops_step rfl rfl rfl (str_add rfl rfl rfl k6 o3) ?_
 obtain⟨s15,i2⟩:=nm (s14++(ByteArray.mk #[10]):ByteArray)
 have q1:ByteArray.size s15=ByteArray.size s14+ByteArray.size (ByteArray.mk #[10]):=by rw[i2];exact ByteArray.size_append
 have m1:ByteArray.size s14+ByteArray.size (ByteArray.mk #[10])≤140737488355328:=by
  have a7:=congrArg ByteArray.size c0
  try simp only[slen_eq hA,a0] at a7
  have a8:=congrArg ByteArray.size c6
  try simp only[slen_eq hA,a0] at a8
  have a9:=congrArg ByteArray.size c5
  try simp only[slen_eq hA,a0] at a9
  omega
 refine dops_step rfl rfl rfl (str_add rfl rfl rfl i2 m1) ?_
 refine dz hA 1 ?_
 refine gs (gx hA 1 ?_)
 refine go_block ?_
 refine go_loopE (fun σ m=>∃(i:Nat) (n:Int) (S:ByteArray),σ=(S15_1 S n a3 a4 a5 a6 a1)∧(n=(i:Int)∧i≤List.length a2∧S=catM (headT a4 a5 a3 a6 (List.length a2:Int)) (a2.take i))∧m=List.length a2 - i) _ [.up 1] [1,3,4] [1] (S15_1 s15 0 a3 a4 a5 a6 a1) rfl (by cbv) ⟨0,0,s15,rfl,?_,rfl⟩ (fun σ m hI=> ?_)
 ·
  refine⟨rfl,Nat.zero_le _,?_⟩
  show _=headT a4 a5 a3 a6 (List.length a2:Int)
  simp only[i2,k6,k5,i0,hs7,hs6,hs3,hs2,hs1,c0,c6,c5,slen_eq hA,a0]
  rfl
 obtain⟨i,n,S,rfl,⟨hn,hi,hS⟩,rfl⟩:=hI
 have hSz:ByteArray.size S≤200000000:=by
  have:=catM_size (h:=S) (a2.take i) (fun m hm=>hmm m (List.mem_of_mem_take hm)) (headT a4 a5 a3 a6 (List.length a2:Int))
  rw[← hS,List.length_take] at this
  omega
 refine gs (gx hA 5 ?_)
 refine gc (fun c16=> ?_) (fun c16=> ?_)
 ·
  have o5:n < (A.rlen a1):=lss_t hA c16
  refine gk (gs ?_)
  refine go_block ?_
  refine gs (gr (rn hA 3 ?_))
  have m9:(0:Int)≤n:=by
   omega
  have n0:(Int.toNat n) < List.length a2:=by
   omega
  obtain⟨x17,l7⟩:∃ x,(a2)[(Int.toNat n)]? =some x:=⟨_,List.getElem?_eq_getElem n0⟩
  have m4:=List.mem_of_getElem? l7
  obtain⟨f3,d8,d0⟩:=x17
  have n4:a1[(Int.toNat n)]? =some [.ii f3,.ii d8,.str d0]:=by
   exact map_at eMail d1 l7
  have j2:=l7
  rw[hn] at j2
  have j2:(a2)[i]? =some (⟨f3,d8,d0⟩:GMail):=j2
  have n5:i64 f3∧i64 d8:=(hmm _ m4).1
  obtain⟨m7,r4⟩:=n5
  have t0:ByteArray.size d0≤1048576:=(hmm _ m4).2
  have n6:=slen_eq hA d0
  have s0:=figB_size _ m7
  have s8:=flagW_size d8
  have s5:=itoaB_size (ByteArray.size d0:Int) (by unfold i64;omega)
  have r8:=figB_size (ByteArray.size d0:Int) (by unfold i64;omega)
  refine ops_step rfl rfl (idx_sl rfl rfl rfl rfl rfl m9 rfl n4) ?_
  refine rz hA 3 ?_
  refine go_draw [0,1,2,3,4,5,6,7,8,9,10,11,12,13,14,15,16,17,18] (by cbv) ?_
  refine dn_ hA 1 ?_
  obtain⟨s18,m3⟩:=nm (S++(ByteArray.mk #[32]):ByteArray)
  have t7:ByteArray.size s18=ByteArray.size S+ByteArray.size (ByteArray.mk #[32]):=by rw[m3];exact ByteArray.size_append
  have q4:ByteArray.size S+ByteArray.size (ByteArray.mk #[32])≤140737488355328:=by
   have a7:=congrArg ByteArray.size c0
   try simp only[slen_eq hA,a0] at a7
   have a8:=congrArg ByteArray.size c6
   try simp only[slen_eq hA,a0] at a8
   have a9:=congrArg ByteArray.size c5
   try simp only[slen_eq hA,a0] at a9
   omega
  refine dops_step rfl rfl rfl (str_add rfl rfl rfl m3 q4) ?_
  refine dn_ hA 2 ?_
  obtain⟨g4,e7,q6⟩:∃(g4:ByteArray),g4=(figB f3)∧Real Tryz.prog 31 [.ii f3] (.str g4):=⟨_,rfl,by exact r_spec_l20Num A hA f3 (by first | assumption | (unfold i64 at *;omega))⟩
  refine dops_callV rfl rfl (by cbv) (by cbv) q6 (.inr rfl) ?_
  obtain⟨s21,l0⟩:=nm (s18++g4:ByteArray)
  have u3:ByteArray.size s21=ByteArray.size s18+ByteArray.size g4:=by rw[l0];exact ByteArray.size_append
  have o6:ByteArray.size s18+ByteArray.size g4≤140737488355328:=by
   have a7:=congrArg ByteArray.size c0
   try simp only[slen_eq hA,a0] at a7
   have a8:=congrArg ByteArray.size c6
   try simp only[slen_eq hA,a0] at a8
   have a9:=congrArg ByteArray.size c5
   try simp only[slen_eq hA,a0] at a9
   have c7:=congrArg ByteArray.size e7
   try simp only[slen_eq hA,a0] at c7
   omega
  refine dops_step rfl rfl rfl (str_add rfl rfl rfl l0 o6) ?_
  obtain⟨s22,l2⟩:=nm (s21++(ByteArray.mk #[32]):ByteArray)
  have t6:ByteArray.size s22=ByteArray.size s21+ByteArray.size (ByteArray.mk #[32]):=by rw[l2];exact ByteArray.size_append
  have r2:ByteArray.size s21+ByteArray.size (ByteArray.mk #[32])≤140737488355328:=by
   have a7:=congrArg ByteArray.size c0
   try simp only[slen_eq hA,a0] at a7
   have a8:=congrArg ByteArray.size c6
   try simp only[slen_eq hA,a0] at a8
   have a9:=congrArg ByteArray.size c5
   try simp only[slen_eq hA,a0] at a9
   have c7:=congrArg ByteArray.size e7
   try simp only[slen_eq hA,a0] at c7
   omega
  refine dops_step rfl rfl rfl (str_add rfl rfl rfl l2 r2) ?_
  refine dn_ hA 2 ?_
  obtain⟨g2,g0,q2⟩:∃(g2:ByteArray),g2=(flagW d8)∧Real Tryz.prog 32 [.ii d8] (.str g2):=⟨_,rfl,by exact r_spec_FlagWords A hA d8 (by assumption)⟩
  refine dops_callV rfl rfl (by cbv) (by cbv) q2 (.inr rfl) ?_
  obtain⟨s25,i6⟩:=nm (s22++g2:ByteArray)
  have o9:ByteArray.size s25=ByteArray.size s22+ByteArray.size g2:=by rw[i6];exact ByteArray.size_append
  have k8:ByteArray.size s22+ByteArray.size g2≤140737488355328:=by
   have a7:=congrArg ByteArray.size c0
   try simp only[slen_eq hA,a0] at a7
   have a8:=congrArg ByteArray.size c6
   try simp only[slen_eq hA,a0] at a8
   have a9:=congrArg ByteArray.size c5
   try simp only[slen_eq hA,a0] at a9
   have c7:=congrArg ByteArray.size e7
   try simp only[slen_eq hA,a0] at c7
   have e8:=congrArg ByteArray.size g0
   try simp only[slen_eq hA,a0] at e8
   omega
  refine dops_step rfl rfl rfl (str_add rfl rfl rfl i6 k8) ?_
  obtain⟨s26,l3⟩:=nm (s25++(ByteArray.mk #[32]):ByteArray)
  have u2:ByteArray.size s26=ByteArray.size s25+ByteArray.size (ByteArray.mk #[32]):=by rw[l3];exact ByteArray.size_append
  have p7:ByteArray.size s25+ByteArray.size (ByteArray.mk #[32])≤140737488355328:=by
   have a7:=congrArg ByteArray.size c0
   try simp only[slen_eq hA,a0] at a7
   have a8:=congrArg ByteArray.size c6
   try simp only[slen_eq hA,a0] at a8
   have a9:=congrArg ByteArray.size c5
   try simp only[slen_eq hA,a0] at a9
   have c7:=congrArg ByteArray.size e7
   try simp only[slen_eq hA,a0] at c7
   have e8:=congrArg ByteArray.size g0
   try simp only[slen_eq hA,a0] at e8
   omega
  refine dops_step rfl rfl rfl (str_add rfl rfl rfl l3 p7) ?_
  refine dn_ hA 3 ?_
  obtain⟨g3,i8,o8⟩:∃(g3:ByteArray),g3=(itoaB (A.slen d0))∧Real Tryz.prog 11 [.ii (A.slen d0)] (.str g3):=⟨_,rfl,by exact r_spec_Decimal A hA (A.slen d0) (by unfold i64 at *;omega)⟩
  refine dops_callV rfl rfl (by cbv) (by cbv) o8 (.inr rfl) ?_
  obtain⟨s29,m2⟩:=nm (s26++g3:ByteArray)
  have u1:ByteArray.size s29=ByteArray.size s26+ByteArray.size g3:=by rw[m2];exact ByteArray.size_append
  have q8:ByteArray.size s26+ByteArray.size g3≤140737488355328:=by
   have a7:=congrArg ByteArray.size c0
   try simp only[slen_eq hA,a0] at a7
   have a8:=congrArg ByteArray.size c6
   try simp only[slen_eq hA,a0] at a8
   have a9:=congrArg ByteArray.size c5
   try simp only[slen_eq hA,a0] at a9
   have c7:=congrArg ByteArray.size e7
   try simp only[slen_eq hA,a0] at c7
   have e8:=congrArg ByteArray.size g0
   try simp only[slen_eq hA,a0] at e8
   have j0:=congrArg ByteArray.size i8
   try simp only[slen_eq hA,a0] at j0
   omega
  refine dops_step rfl rfl rfl (str_add rfl rfl rfl m2 q8) ?_
  obtain⟨s30,k9⟩:=nm (s29++(ByteArray.mk #[10]):ByteArray)
  have t5:ByteArray.size s30=ByteArray.size s29+ByteArray.size (ByteArray.mk #[10]):=by rw[k9];exact ByteArray.size_append
  have q3:ByteArray.size s29+ByteArray.size (ByteArray.mk #[10])≤140737488355328:=by
   have a7:=congrArg ByteArray.size c0
   try simp only[slen_eq hA,a0] at a7
   have a8:=congrArg ByteArray.size c6
   try simp only[slen_eq hA,a0] at a8
   have a9:=congrArg ByteArray.size c5
   try simp only[slen_eq hA,a0] at a9
   have c7:=congrArg ByteArray.size e7
   try simp only[slen_eq hA,a0] at c7
   have e8:=congrArg ByteArray.size g0
   try simp only[slen_eq hA,a0] at e8
   have j0:=congrArg ByteArray.size i8
   try simp only[slen_eq hA,a0] at j0
   omega
  refine dops_step rfl rfl rfl (str_add rfl rfl rfl k9 q3) ?_
  refine dz hA 1 ?_
  refine gy hA 3 ?_
  refine⟨(S15_1 s30 (A.num .add .i64 n 1) a3 a4 a5 a6 a1),List.length a2 - (i+1),?_,by cbv,i+1,(A.num .add .i64 n 1),s30,rfl,?_,rfl⟩
  ·
   omega
  refine⟨by rw[add_i64 hA (by omega) (by omega)];omega,by omega,?_⟩
  rw[catM_at j2,← hS]
  simp only[k9,m2,l3,i6,l2,l0,m3,i2,k6,k5,i0,hs7,hs6,hs3,hs2,hs1,c0,c6,c5,e7,g0,i8,n6]
  simp only[mailT,spB,nlB,ByteArray.append_assoc]
 have o5:(A.rlen a1)≤n:=lss_f hA c16
 refine go_exit ⟨fun _=> ?_,fun h=>absurd rfl h⟩
 refine gx hA 2 ?_
 refine rt (gt ?_)
 refine congrArg PV.str ?_
 rw[hS,List.take_of_length_le (by omega)];rfl
end Go.Av

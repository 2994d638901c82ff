/- Lemmas and walks for FnExactServerNew: what each function of the program and of the reference comes to. -/
import Derived.Test.YtghokbigemmaaaaGreatSG
import Derived.Test.YtghokbigemmaaaaGreatSA
import Derived.Test.YtghokbigemmaaaaGreatQ8
import Derived.Test.YtghokbigemmaaaaGreatJ1
open List renaming length→aaK,map→aaN,length_map→aaS,mem_cons_of_mem→aaX,length_append→aaY,mem_cons_self→aa2,mem_flatMap→abf
open ByteArray renaming size→aaL,empty→aaM,mk→aaP
open Int renaming toNat→aaO
open Nat renaming zero_le→aaW,le_refl→abr
namespace Go.Av
open Go Go.Proofs
set_option maxRecDepth 100000
set_option maxHeartbeats 4000000
set_option linter.unusedVariables false
set_option linter.unusedSimpArgs false
def ZP (p0 p1 p2 p3 p4 p5 p6:Int)(p7 p8 p9 fj:RR)(fc:Int):St:={sl:=.aa::.ii p0::.aa::.aa::.pt 4 0 0::.pt 5 0 0::.ii p1::YJ,bl:=[(5,⟨.var,9,[[.own 12,.own 1012,.ii p2,.own 3012,.ii p3,.ii p4,.ii p5,.ii p6,.own 8012]]⟩),(12,⟨.arr,1,p7⟩),(1012,⟨.arr,2,p8⟩),(3012,⟨.arr,4,p9⟩),(8012,⟨.arr,1,fj⟩),(4,⟨.var,9,[[.zc,.zc,.ii fc,.zc,.ii fc,.ii fc,.ii fc,.ii fc,.zc]]⟩)]}
theorem FQ (A:ax)(hA:A=aj)(x:aK)(size N:Int)(L:List aT)(hx:iQ A x N L):al 71 [.agg (iv x),.ii size] (.agg (kP x)):=by
 obtain⟨⟨⟨a2,a3⟩,a0,a6,a5,a4,a7,a1⟩,b2⟩:=x;obtain⟨a9,a8,d6⟩:=nr hA ah a2;obtain⟨b1,b0,d7⟩:=nr hA bn a3;obtain⟨c0,b7,e0⟩:=nr hA cA a6;obtain⟨c9,c8,f2⟩:=nr hA bq b2;refine ak (az:=[.agg [.sl 1 a9,.sl 2 b1,.ii a0,.sl 4 c0,.ii a5,.ii a4,.ii a7,.ii a1,.sl 1 c9],.ii size]) (by subst a8 b0 b7 c8;rfl) ?_;have hzs:=hx.zs;obtain⟨h,hf⟩:=hx;have hx:iQ A (⟨⟨⟨a2,a3⟩,a0,a6,a5,a4,a7,a1⟩,b2⟩:aK) N L:=⟨h,hf⟩;have hf:b2=[]:=hf;have hlog:=h;obtain⟨n5,jq,gd,l3,dk,ca,ln,sg,us,lng,lns,lsp,lnv,tx⟩:=h;have oE:eM ⟨a2,a3⟩:=dk;have ca:a3=[]:=ca;have ln:(aaK a2:Int)=8+N * 8:=ln;have sg:a0=N:=sg;have us:a6=[fB L]:=us;have lng:a5=2:=lng;have lns:a4=(aaK L:Int)+1:=lns;have lsp:a7=1:=lsp;have lnv:a1=(aaK L:Int)+1:=lnv;have uT:aaK a6=1:=by rw[us];rfl
 have lca:aaK a3=0:=by rw[ca];rfl
 have hil:=hlog.len;have hzl:=hlog.zs;have hit:bm a6=bx L:=hlog.items;have hib:aaK (bx L)=aaK L:=aaS ..;have hend:=hlog.end_;have hilx:(bm a6).length<=1048576:=hil;have lff:aaK b2=0:=by rw[hf];rfl
 refine aY Tryz.func71 ?_;refine gx hA 2 ?_;refine gs (gr (rn hA 1 ?_));obtain⟨b3,b4,c4,d5,b5,c1,d0,d9,aJ⟩:=tM (aaN ah a2) (aaN aU a3) (aaN bW a6) (aaN bq b2) a0 a5 a4 a7 a1 (ma A hA (⟨⟨⟨a2,a3⟩,a0,a6,a5,a4,a7,a1⟩,b2⟩:aK) hzs);have e5:=ab hA b5;have f1:=ab hA c1;have f6:=ab hA d0;have g0:=ab hA d9;refine aH aJ (.inr rfl) ?_ (hv:=by subst a8 b0 b7 c8;rfl);refine rz hA 2 ?_;refine gs (gx hA 1 ?_);refine af ?_;refine aF (λσ m=>∃(n:Int),σ=(ZP size n a0 a5 a4 a7 a1 b3 b4 c4 d5 0)/\(n=0)/\m=0) _ [] [1,4,5,6] [5,12,1012,3012,8012,4] _ rfl (by cbv) ⟨0,rfl,?_,rfl⟩ (λσ m hI=>?_)
 ·
  exact rfl
 obtain⟨n,rfl,hn,rfl⟩:=hI;refine gs (gx hA 6 ?_);refine gc (λc3=>?_) (λc3=>?_)
 ·
  have cI:n < (A.num .mul .i64 4 a0):=aP hA c3;refine gk (gs (af (gs (gs (gr (rn hA 2 ?_))))));obtain⟨f7,e2,eu⟩:=JS [.agg [.sl 1 (ar b3),.sl 2 (ar b4),.ii a0,.sl 4 (ar c4),.ii a5,.ii a4,.ii a7,.ii a1]] (aaN bq (mc a0 a6)) (by subst b5 c1 d0;simp only[im,bS,cE];exact vX A hA (⟨⟨a2,a3⟩,a0,a6,a5,a4,a7,a1⟩:bF) (by show aaK a6<=1048576;omega));have i1:=ab hA e2;refine aH eu (.inl (by simp only[fresh,cj,e2,kc,and_self])) ?_;refine rn hA 3 ?_;refine ag 26 rfl (λc6=>?_) (λc6=>?_)
  ·
   have cp:2 < (A.ao f7):=dJ hA c6;refine rz hA 8 ?_;refine gc (λc7=>?_) (λc7=>?_)
   ·
    refine aI ⟨λh=>absurd h (by decide),λ_=>⟨λ_=>?_,λh=>absurd rfl h⟩⟩;refine gx hA 2 ?_;refine rt (gt ?_);show _=(PV.agg [.ow 1 b3,.ow 2 b4,.ii a0,.ow 4 c4,.ii a5,.ii a4,.ii a7,.ii a1,.ow 1 d5]);simp only[b5,c1,d0,d9,e2];rfl
   exact cu c7 (by rfl)
  have cp:(A.ao f7)<=2:=dL hA c6;exfalso;have hfm:=IG n5 L;have hfq:4<=aaK (mc a0 a6):=by rw[sg,us];exact hfm
  omega
 have cI:(A.num .mul .i64 4 a0)<=n:=aQ hA c3;exfalso;have w4:A.num .mul .i64 4 a0=4 * a0:=num_mul hA (by unfold i64;omega);omega
def ZQ (p0 p1 p2 p3 p4 p5 p6:Int)(p7 p8 p9 fj:RR)(fc:Int)(ku ou qP so:RR):St:={sl:=.aa::.ii p0::.pt 2 0 0::.aa::.pt 4 0 0::.pt 5 0 0::.ii p1::YL,bl:=[(5,⟨.var,9,[[.own 11,.own 1011,.ii p2,.own 3011,.ii p3,.ii p4,.ii p5,.ii p6,.own 8011]]⟩),(11,⟨.arr,1,p7⟩),(1011,⟨.arr,2,p8⟩),(3011,⟨.arr,4,p9⟩),(8011,⟨.arr,1,fj⟩),(4,⟨.var,9,[[.zc,.zc,.ii fc,.zc,.ii fc,.ii fc,.ii fc,.ii fc,.zc]]⟩),(2,⟨.var,9,[[.sl 1 ku,.sl 2 ou,.ii p2,.sl 4 qP,.ii p3,.ii p4,.ii p5,.ii p6,.sl 1 so]]⟩)]}
theorem FR (A:ax)(hA:A=aj)(x:aK)(size N:Int)(L:List aT)(hx:iQ A x N L):al 57 [.agg (iv x),.ii size] (.agg (iv x)):=by
 obtain⟨⟨⟨a2,a3⟩,a0,a6,a5,a4,a7,a1⟩,b2⟩:=x;obtain⟨a9,a8,d6⟩:=nr hA ah a2;obtain⟨b1,b0,d7⟩:=nr hA bn a3;obtain⟨c0,b7,e0⟩:=nr hA cA a6;obtain⟨c9,c8,f2⟩:=nr hA bq b2;refine ak (az:=[.agg [.sl 1 a9,.sl 2 b1,.ii a0,.sl 4 c0,.ii a5,.ii a4,.ii a7,.ii a1,.sl 1 c9],.ii size]) (by subst a8 b0 b7 c8;rfl) ?_;have hzs:=hx.zs;obtain⟨h,hf⟩:=hx;have hx:iQ A (⟨⟨⟨a2,a3⟩,a0,a6,a5,a4,a7,a1⟩,b2⟩:aK) N L:=⟨h,hf⟩;have hf:b2=[]:=hf;have hlog:=h;obtain⟨n5,jq,gd,l3,dk,ca,ln,sg,us,lng,lns,lsp,lnv,tx⟩:=h;have oE:eM ⟨a2,a3⟩:=dk;have ca:a3=[]:=ca;have ln:(aaK a2:Int)=8+N * 8:=ln;have sg:a0=N:=sg;have us:a6=[fB L]:=us;have lng:a5=2:=lng;have lns:a4=(aaK L:Int)+1:=lns;have lsp:a7=1:=lsp;have lnv:a1=(aaK L:Int)+1:=lnv;have uT:aaK a6=1:=by rw[us];rfl
 have lca:aaK a3=0:=by rw[ca];rfl
 have hil:=hlog.len;have hzl:=hlog.zs;have hit:bm a6=bx L:=hlog.items;have hib:aaK (bx L)=aaK L:=aaS ..;have hend:=hlog.end_;have hilx:(bm a6).length<=1048576:=hil;have lff:aaK b2=0:=by rw[hf];rfl
 refine aY Tryz.func57 ?_;refine gx hA 2 ?_;refine gs (gr (rn hA 1 ?_));obtain⟨b8,c2,d2,d4,b6,b9,d1,d3,aJ⟩:=tM (aaN ah a2) (aaN aU a3) (aaN bW a6) (aaN bq b2) a0 a5 a4 a7 a1 (mr A hA (⟨⟨⟨a2,a3⟩,a0,a6,a5,a4,a7,a1⟩,b2⟩:aK) hzs);have e4:=ab hA b6;have e8:=ab hA b9;have f8:=ab hA d1;have g2:=ab hA d3;refine aH aJ (.inr rfl) ?_ (hv:=by subst a8 b0 b7 c8;rfl);refine rz hA 2 ?_;refine gs (gs (gr (rn hA 1 ?_)));have cL:=Hm A hA (⟨⟨⟨a2,a3⟩,a0,a6,a5,a4,a7,a1⟩,b2⟩:aK) N L hx;refine aH cL (.inr rfl) ?_ (hv:=by subst a8 b0 b7 c8;rfl);refine rz hA 1 ?_;refine gc (λc5=>?_) (λc5=>?_)
 ·
  exact ay c5 (by subst hA;rfl)
 refine gk (gs (gx hA 1 ?_));refine af ?_;refine aF (λσ m=>∃(n:Int),σ=(ZQ size n a0 a5 a4 a7 a1 b8 c2 d2 d4 0 a9 b1 c0 c9)/\(n=0)/\m=0) _ [] [1,2,4,5,6] [5,11,1011,3011,8011,4,2] _ rfl (by cbv) ⟨0,rfl,?_,rfl⟩ (λσ m hI=>?_)
 ·
  exact rfl
 obtain⟨n,rfl,hn,rfl⟩:=hI;refine gs (gx hA 6 ?_);refine gc (λc6=>?_) (λc6=>?_)
 ·
  have cp:n < (A.num .mul .i64 4 a0):=aP hA c6;refine gk (gs (af (gs ?_)))
  -- frozen
  obtain⟨q7,hq7⟩:=nm (ar b8:RR);have Yt:q7=aaN ah a2:=by rw[hq7,b6];exact bS _
  have lq7:=ab hA Yt;obtain⟨q8,Ns⟩:=nm (ar c2:RR);have Yu:q8=aaN bn a3:=by rw[Ns,b9];exact cE _
  have lq8:=ab hA Yu;obtain⟨q9,hq9⟩:=nm (ar d2:RR);have Ut:q9=aaN cA a6:=by rw[hq9,d1];exact im _
  have lq9:=ab hA Ut;obtain⟨Yv,f9⟩:=nm (ar d4:RR);have g1:Yv=aaN bq b2:=by rw[f9,d3];exact js _
  have i8:=ab hA g1;refine B2 (aA:=({sl:=.aa::.ii size::.pt 2 0 0::.aa::.pt 4 0 0::.pt 5 0 0::.ii n::F4++.ii n::.pt 2 0 0::.pt 2 0 2::.ii a0::.ii (A.num .mul .i64 4 a0)::.bool (A.cmp .lss n (A.num .mul .i64 4 a0))::Ea,bl:=[(5,⟨.var,9,[[.sl 1 q7,.sl 2 q8,.ii a0,.sl 4 q9,.ii a5,.ii a4,.ii a7,.ii a1,.sl 1 Yv]]⟩),(4,⟨.var,9,[[.zc,.zc,.ii 0,.zc,.ii 0,.ii 0,.ii 0,.ii 0,.zc]]⟩),(2,⟨.var,9,[[.sl 1 a9,.sl 2 b1,.ii a0,.sl 4 c0,.ii a5,.ii a4,.ii a7,.ii a1,.sl 1 c9]]⟩)]}:St)) [.freeze 11,.freeze 1011,.freeze 3011,.freeze 8011] (by subst hq7 Ns hq9 f9;first | rfl | cbv) ?_;refine rn hA 8 ?_;have g4:(0:Int)<=(A.num .sub .i64 (A.ao q9) 1):=by
   rw[dE hA (by omega) (by omega)];omega
  have g7:(aaO (A.num .sub .i64 (A.ao q9) 1)) < aaK a6:=by
   rw[dE hA (by omega) (by omega)];omega
  obtain⟨x11,f5⟩:∃ x,(a6)[(aaO (A.num .sub .i64 (A.ao q9) 1))]? =some x:=⟨_,List.getElem?_eq_getElem g7⟩;have i5:=List.mem_of_getElem? f5;obtain⟨f4,e7,f0,d8⟩:=x11;obtain⟨e6,e3,g3⟩:=nr hA aW d8;have g6:q9[(aaO (A.num .sub .i64 (A.ao q9) 1))]? =some [.ii f4,.ii e7,.ii f0,.sl 9 e6]:=by
   subst e3;exact bC cA Ut f5
  obtain⟨e1,i4⟩:=yR us f5;have i2:f4=0:=congrArg bu.No e1;have i6:e7=1:=congrArg bu.jy e1;have i3:f0=(eg L:Int):=congrArg bu.End e1;have g5:d8=bx L:=congrArg bu.ka e1;have i7:aaK d8<=1048576:=by rw[g5];omega
  refine ee g4 g6 ?_;refine rz hA 3 ?_;refine gs (gs (gr (rn hA 2 ?_)));obtain⟨f3,e9,g8⟩:=qL (aaN bq (mc a0 a6)) (vY A hA (⟨⟨a2,a3⟩,a0,a6,a5,a4,a7,a1⟩:bF) (by show aaK a6<=1048576;omega));have i0:=ab hA e9;refine aH g8 (.inr rfl) ?_ (hv:=by subst Yt Yu Ut;rfl);refine rn hA 3 ?_;refine ag 39 rfl (λdF=>?_) (λdF=>?_)
  ·
   have g9:2 < (A.ao f3):=dJ hA dF;refine rz hA 6 ?_;refine gc (λeL=>?_) (λeL=>?_)
   ·
    refine gx hA 2 ?_;refine rt (gt ?_);show _=(PV.agg [.sl 1 q7,.sl 2 q8,.ii a0,.sl 4 q9,.ii a5,.ii a4,.ii a7,.ii a1,.sl 1 Yv]);simp only[Yt,Yu,Ut,g1,b6,b9,d1,d3,e9];rfl
   exact cu eL (by rfl)
  have g9:(A.ao f3)<=2:=dL hA dF;exfalso;have hfm:=IG n5 L;have hfq:4<=aaK (mc a0 a6):=by rw[sg,us];exact hfm
  omega
 have cp:(A.num .mul .i64 4 a0)<=n:=aQ hA c6;exfalso;have w4:A.num .mul .i64 4 a0=4 * a0:=num_mul hA (by unfold i64;omega);omega
theorem Hp (A:ax)(hA:A=aj)(s:cY)(nv:Int)(u:ByteArray)(zu:(aaL u:Int)<=4611686018427387904)(hz:∀ q∈fJ s,q<=1048576)(hvs:∀ b∈s.fF,b.Valid < nv):al 69 [.agg (jn s),.ii nv,.agg [.ii 1,.str u,.str (aaP #[105,110,98,111,120]),.str aaM,.ii 0,.zc,.ii 0,.str aaM]] (.aw [.sl 8 (aaN gY (oq s.fF nv u)),.bool (dN s.fF nv u)]):=by
 obtain⟨k6⟩:=s;obtain⟨t3,p9,w4⟩:=nr hA iG k6;refine ak (az:=[.agg [.sl 5 t3],.ii nv,.agg [.ii 1,.str u,.str (aaP #[105,110,98,111,120]),.str aaM,.ii 0,.zc,.ii 0,.str aaM]]) (by subst p9;rfl) ?_;have u3:∀ q∈gW k6,q<=1048576:=λq hq=>hz q (by simp only[fJ,List.mem_append];simp only[hq,true_or,or_true]);have w7:aaK k6<=1048576:=u3 _ (by simp[gW]);refine aY Tryz.func69 ?_;refine gx hA 4 ?_;refine gs (gr (rn hA 3 ?_));obtain⟨v4,v8,v6,r5,o2,u7,aJ⟩:=ZK (aaN gY (oq k6 nv u)) (aaN eA (Gy k6 nv u)) (dN k6 nv u) (Gx A hA (⟨k6⟩:cY) nv u zu hz hvs);have w6:=ab hA r5;have v5:=ab hA o2;refine aH aJ (.inr rfl) ?_ (hv:=by subst p9;rfl);refine rz hA 8 ?_;refine gx hA 4 ?_;refine rt (gt ?_);show _=PV.aw [.sl 8 v4,.bool v6];simp only[r5,o2,u7]
 try rfl
theorem Jq (A:ax)(hA:A=aj)(x:aK)(N:Int)(L:List aT)(hx:iQ A x N L)(u:ByteArray)(kL:L.length<=2)(zu:(aaL u:Int)<=4611686018427387904):al 33 [.agg (iv x),.agg [.ii 1,.str u,.str (aaP #[105,110,98,111,120]),.str aaM,.ii 0,.zc,.ii 0,.str aaM]] (.aw [.agg (kP (mP A x L u)),.ii (BE L u)]):=by
 obtain⟨⟨⟨a1,a2⟩,a7,a6,a3,a4,a5,a0⟩,a8⟩:=x;obtain⟨b3,a9,e9⟩:=nr hA ah a1;obtain⟨b4,b0,f5⟩:=nr hA bn a2;obtain⟨c3,b1,l2⟩:=nr hA cA a6;obtain⟨e1,b2,o6⟩:=nr hA bq a8;refine ak (az:=[.agg [.sl 1 b3,.sl 2 b4,.ii a7,.sl 4 c3,.ii a3,.ii a4,.ii a5,.ii a0,.sl 1 e1],.agg [.ii 1,.str u,.str (aaP #[105,110,98,111,120]),.str aaM,.ii 0,.zc,.ii 0,.str aaM]]) (by subst a9 b0 b1 b2;rfl) ?_;have hzs:=hx.zs;obtain⟨h,hf⟩:=hx;have hx:iQ A (⟨⟨⟨a1,a2⟩,a7,a6,a3,a4,a5,a0⟩,a8⟩:aK) N L:=⟨h,hf⟩;have hf:a8=[]:=hf;have hlog:=h;obtain⟨n5,jq,gd,l3,dk,ca,ln,sg,us,lng,lns,lsp,lnv,tx⟩:=h;have oE:eM ⟨a1,a2⟩:=dk;have ca:a2=[]:=ca;have ln:(aaK a1:Int)=8+N * 8:=ln;have sg:a7=N:=sg;have us:a6=[fB L]:=us;have lng:a3=2:=lng;have lns:a4=(aaK L:Int)+1:=lns;have lsp:a5=1:=lsp;have lnv:a0=(aaK L:Int)+1:=lnv;have uT:aaK a6=1:=by rw[us];rfl
 have lca:aaK a2=0:=by rw[ca];rfl
 have hil:=hlog.len;have hzl:=hlog.zs;have hit:bm a6=bx L:=hlog.items;have hib:aaK (bx L)=aaK L:=aaS ..;have hend:=hlog.end_;have hilx:(bm a6).length<=1048576:=hil;have lff:aaK a8=0:=by rw[hf];rfl
 refine aY Tryz.func33 ?_;refine gx hA 4 ?_;refine gs ?_;refine cz [0,1,2,3,4,5,6,7,8,10,9,11] (by cbv) ?_;refine bL hA 1 ?_;obtain⟨p5,m6,aJ⟩:=tE (aaN eA L) (pQ A hA (⟨⟨⟨a1,a2⟩,a7,a6,a3,a4,a5,a0⟩,a8⟩:aK) N L hx);have w0:=ab hA m6;have v7:A.ao (ar p5)=(aaK L:Int):=ab hA (by rw[m6];exact je _);refine eQ aJ (.inr rfl) ?_ (hv:=by subst a9 b0 b1 b2;rfl);refine bL hA 4 ?_;obtain⟨c4,p2,o5,s0,cL⟩:=Rl [.agg [.sl 5 (ar p5)],.ii a0,.agg [.ii 1,.str u,.str (aaP #[105,110,98,111,120]),.str aaM,.ii 0,.zc,.ii 0,.str aaM]] (aaN gY (oq L a0 u)) (dN L a0 u) (by subst m6;simp only[je];exact Hp A hA (⟨L⟩:cY) a0 u zu (rM gd) (QS gd lnv));have w8:=ab hA o5;refine eQ cL (.inr rfl) ?_;refine dz hA 5 ?_;refine gs (gx hA 2 ?_);refine gc (λc5=>?_) (λc5=>?_)
 ·
  have c6:p2=false:=ck hA c5;refine gs (gr (rn hA 1 ?_));obtain⟨n2,o7,q2,s6,g9,i9,n0,o9,jQ⟩:=tM (aaN ah a1) (aaN aU a2) (aaN bW a6) (aaN bq a8) a7 a3 a4 a5 a0 (ma A hA (⟨⟨⟨a1,a2⟩,a7,a6,a3,a4,a5,a0⟩,a8⟩:aK) hzs);have s4:=ab hA g9;have s9:=ab hA i9;have v0:=ab hA n0;have w2:=ab hA o9;refine aH jQ (.inr rfl) ?_ (hv:=by subst a9 b0 b1 b2;rfl);refine rz hA 2 ?_;refine rt (gt ?_);show _=PV.aw [.agg [.ow 1 n2,.ow 2 o7,.ii a7,.ow 4 q2,.ii a3,.ii a4,.ii a5,.ii a0,.ow 1 s6],.ii 1];have hmx:dN L ((L.length:Int)+1) u=false:=by rw[<- lnv,<- (show p2=dN L a0 u from s0)];assumption
  rw[mP,BE,if_neg (by rw[hmx];decide),if_neg (by rw[hmx];decide)];simp only[g9,i9,n0,o9];rfl
 have c9:p2=true:=cm hA c5;refine gk (gx hA 1 ?_);refine gs (gs ?_);have hmx:dN L a0 u=true:=by rw[<- (show p2=dN L a0 u from s0)];assumption
 have hm:dN L ((L.length:Int)+1) u=true:=by rw[<- lnv];exact hmx
 have oZ:oq L a0 u=[cF a0 u]:=by rw[oq,if_pos hmx]
 have le:A.ao c4=(1:Int):=by rw[o5,oZ];subst hA;rfl
 refine gy hA 3 ?_;refine af ?_;refine pY 2 ?_;refine gK ?_;refine gx hA 1 ?_;refine gs ?_;refine gc (λcB=>?_) (λcB=>?_)
 ·
  have u8:0 < (A.ao c4):=aP hA cB;refine gk (gs (af (gs (gr ?_))));have t1:c4[aaO 0]? =some [.ii 1,.ii a0,.ii 0,.ii 1,.ii 0,.str u,.str (aaP #[105,110,98,111,120]),.str aaM]:=by rw[o5,oZ];rfl
  refine ee (by omega) t1 ?_;refine rz hA 3 ?_;refine gr (rn hA 2 ?_);obtain⟨t2,x0,u5⟩:=tb (Hn A hA a0 u (by omega) (by omega) (mH hm));refine aH u5 (.inr rfl) ?_;refine rz hA 3 ?_;refine gy hA 2 ?_;refine mj (mZ:=({sl:=.aa::.aa::.pt 2 0 0::.aa::.pt 4 0 0::.aa::.sl 8 c4::.aa::.ii (A.num .add .i64 0 (A.num .add .i64 t2 10))::NK++.sl 8 c4::.ii (A.ao c4)::.ii 1::JC,bl:=[(4,⟨.var,9,[[.zc,.zc,.ii 0,.zc,.ii 0,.ii 0,.ii 0,.ii 0,.zc]]⟩),(2,⟨.var,9,[[.sl 1 b3,.sl 2 b4,.ii a7,.sl 4 c3,.ii a3,.ii a4,.ii a5,.ii a0,.sl 1 e1]]⟩)]}:St)) [] [2,4,6,8,31,32,33] [4,2] rfl (by subst hA;rfl) ?_;refine gK ?_;refine gx hA 1 ?_;refine gs ?_;refine gc (λdF=>?_) (λdF=>?_)
  ·
   have u9:1 < (A.ao c4):=aP hA dF;exfalso;omega
  have u9:(A.ao c4)<=1:=aQ hA dF;refine aI (gE ?_);refine gs (gr (rn hA 2 ?_));obtain⟨c7,d0,f9,j5,b8,c1,d6,f4,u0⟩:=tM (aaN ah a1) (aaN aU a2) (aaN bW a6) (aaN bq a8) a7 a3 a4 a5 a0 (FQ A hA (⟨⟨⟨a1,a2⟩,a7,a6,a3,a4,a5,a0⟩,a8⟩:aK) (A.num .add .i64 0 (A.num .add .i64 t2 10)) N L hx);have m5:=ab hA b8;have n6:=ab hA c1;have p8:=ab hA d6;have r1:=ab hA f4;refine aH u0 (.inr rfl) ?_ (hv:=by subst a9 b0 b1 b2;rfl);refine rz hA 2 ?_;refine gs (gr (rn hA 1 ?_));obtain⟨d9,e7,k1,m4,b5,b6,c8,e0,u2⟩:=X3 [.agg [.sl 1 (ar c7),.sl 2 (ar d0),.ii a7,.sl 4 (ar f9),.ii a3,.ii a4,.ii a5,.ii a0,.sl 1 (ar j5)]] (aaN ah a1) (aaN aU a2) (aaN bW a6) (aaN bq a8) a7 a3 a4 a5 a0 (by subst b8 c1 d6 f4;simp only[js,im,bS,cE];exact ma A hA (⟨⟨⟨a1,a2⟩,a7,a6,a3,a4,a5,a0⟩,a8⟩:aK) hzs);have m7:=ab hA b5;have n7:=ab hA b6;have p7:=ab hA c8;have q8:=ab hA e0;refine aH u2 (.inl (by simp only[fresh,cj,b5,b6,c8,e0,kc,nA,dy,ev,and_self])) ?_;refine rz hA 2 ?_;refine gs (gx hA 3 ?_);refine af ?_;refine pY 2 ?_;refine gK ?_;refine gx hA 1 ?_;refine gs ?_;refine gc (λlY=>?_) (λlY=>?_)
  ·
   have t9:0 < (A.ao c4):=aP hA lY;refine gk (gs (af (gs (gr ?_))));have t0:c4[aaO 0]? =some [.ii 1,.ii a0,.ii 0,.ii 1,.ii 0,.str u,.str (aaP #[105,110,98,111,120]),.str aaM]:=by rw[o5,oZ];rfl
   refine ee (by omega) t0 ?_;refine rz hA 3 ?_;refine gs (gr (rn hA 2 ?_));obtain⟨f8,g6,l9,l8,k0,j8,k9,i4,o3,r2,d2,d5,l0,g1,j0,j1,k4,g8,k2,t7,u1⟩:=FB [.agg [.sl 1 (ar d9),.sl 2 (ar e7),.ii a7,.sl 4 (ar k1),.ii a3,.ii a4,.ii a5,.ii a0,.sl 1 (ar m4)],.agg [.ii 1,.ii a0,.ii 0,.ii 1,.ii 0,.str u,.str (aaP #[105,110,98,111,120]),.str aaM]] (aaN ah ((((ll A (⟨⟨⟨a1,a2⟩,a7,a6,a3,a4,a5,a0⟩,a8⟩:aK) L u).Log).ba).aD)) (aaN aU ((((ll A (⟨⟨⟨a1,a2⟩,a7,a6,a3,a4,a5,a0⟩,a8⟩:aK) L u).Log).ba).Cache)) (((ll A (⟨⟨⟨a1,a2⟩,a7,a6,a3,a4,a5,a0⟩,a8⟩:aK) L u).Log).ld) (aaN bW (((ll A (⟨⟨⟨a1,a2⟩,a7,a6,a3,a4,a5,a0⟩,a8⟩:aK) L u).Log).Used)) (((ll A (⟨⟨⟨a1,a2⟩,a7,a6,a3,a4,a5,a0⟩,a8⟩:aK) L u).Log).dZ) (((ll A (⟨⟨⟨a1,a2⟩,a7,a6,a3,a4,a5,a0⟩,a8⟩:aK) L u).Log).ea) (((ll A (⟨⟨⟨a1,a2⟩,a7,a6,a3,a4,a5,a0⟩,a8⟩:aK) L u).Log).fv) (((ll A (⟨⟨⟨a1,a2⟩,a7,a6,a3,a4,a5,a0⟩,a8⟩:aK) L u).Log).cT) (aaN bq ((ll A (⟨⟨⟨a1,a2⟩,a7,a6,a3,a4,a5,a0⟩,a8⟩:aK) L u).cW)) 0 (by subst b5 b6 c8 e0;simp only[js,im,bS,cE];exact LY A hA (⟨⟨⟨a1,a2⟩,a7,a6,a3,a4,a5,a0⟩,a8⟩:aK) N L hx u a0 kL hm lnv);have r0:=ab hA d2;have r6:=ab hA d5;have t8:=ab hA g1;have v1:=ab hA k2;refine aH u1 (.inl (by simp only[fresh,cj,d2,d5,l0,g1,j0,j1,k4,g8,k2,t7,kc,nA,dy,ev,and_self])) ?_;refine rz hA 6 ?_;refine gs (gx hA 2 ?_);refine gc (λjR=>?_) (λjR=>?_)
   ·
    have u6:r2≠0:=gp hA jR;exfalso;omega
   have u6:r2=0:=gq hA jR;refine gk (gy hA 2 ?_);refine gy hA 2 ?_;refine mj (mZ:=({sl:=iB++.pt 4 0 0::F3++.pt 11 0 0::.pt 12 0 0::NN++.sl 8 c4::.ii (A.ao c4)::.ii 1::vg,bl:=[(57,⟨.arr,1,f8⟩),(1057,⟨.arr,2,g6⟩),(3057,⟨.arr,4,l8⟩),(8057,⟨.arr,1,o3⟩),(12,⟨.var,9,[[.own 57,.own 1057,.ii l9,.own 3057,.ii k0,.ii j8,.ii k9,.ii i4,.own 8057]]⟩),(11,⟨.var,9,[[.own 45,.own 1045,.ii a7,.own 3045,.ii a3,.ii a4,.ii a5,.ii a0,.own 8045]]⟩),(45,⟨.arr,1,c7⟩),(1045,⟨.arr,2,d0⟩),(3045,⟨.arr,4,f9⟩),(8045,⟨.arr,1,j5⟩),(4,⟨.var,9,[[.zc,.zc,.ii 0,.zc,.ii 0,.ii 0,.ii 0,.ii 0,.zc]]⟩)]}:St)) [] [4,11,12,48,49,50] [57,1057,3057,8057,12,11,45,1045,3045,8045,4] rfl (by subst hA;rfl) ?_;refine gK ?_;refine gx hA 1 ?_;refine gs ?_;refine gc (λjW=>?_) (λjW=>?_)
   ·
    have u4:1 < (A.ao c4):=aP hA jW;exfalso;omega
   have u4:(A.ao c4)<=1:=aQ hA jW;refine aI (gE ?_);refine gx hA 3 ?_;refine rt (gt ?_);show _=PV.aw [.agg [.ow 1 f8,.ow 2 g6,.ii l9,.ow 4 l8,.ii k0,.ii j8,.ii k9,.ii i4,.ow 1 o3],.ii 0];rw[mP,BE,if_pos hm,if_pos hm];simp only[d2,d5,g1,k2,l0,j0,j1,k4,g8];rfl
  have t9:(A.ao c4)<=0:=aQ hA lY;exfalso;omega
 have u8:(A.ao c4)<=0:=aQ hA cB;exfalso;omega
theorem D8 (A:ax)(hA:A=aj)(x:aK)(N:Int)(L:List aT)(hx:iQ A x N L)(u:ByteArray)(kL:L.length<=2)(zu:(aaL u:Int)<=4611686018427387904):al 16 [.agg (iv x),.str u] (.aw [.agg (kP (jz A x L u)),.ii (tj L u)]):=by
 obtain⟨⟨⟨a1,a2⟩,a7,a6,a3,a4,a5,a0⟩,a8⟩:=x;obtain⟨b3,a9,e9⟩:=nr hA ah a1;obtain⟨b4,b0,f5⟩:=nr hA bn a2;obtain⟨c3,b1,l2⟩:=nr hA cA a6;obtain⟨e1,b2,o6⟩:=nr hA bq a8;refine ak (az:=[.agg [.sl 1 b3,.sl 2 b4,.ii a7,.sl 4 c3,.ii a3,.ii a4,.ii a5,.ii a0,.sl 1 e1],.str u]) (by subst a9 b0 b1 b2;rfl) ?_;have hzs:=hx.zs;obtain⟨h,hf⟩:=hx;have hx:iQ A (⟨⟨⟨a1,a2⟩,a7,a6,a3,a4,a5,a0⟩,a8⟩:aK) N L:=⟨h,hf⟩;have hf:a8=[]:=hf;have hlog:=h;obtain⟨n5,jq,gd,l3,dk,ca,ln,sg,us,lng,lns,lsp,lnv,tx⟩:=h;have oE:eM ⟨a1,a2⟩:=dk;have ca:a2=[]:=ca;have ln:(aaK a1:Int)=8+N * 8:=ln;have sg:a7=N:=sg;have us:a6=[fB L]:=us;have lng:a3=2:=lng;have lns:a4=(aaK L:Int)+1:=lns;have lsp:a5=1:=lsp;have lnv:a0=(aaK L:Int)+1:=lnv;have uT:aaK a6=1:=by rw[us];rfl
 have lca:aaK a2=0:=by rw[ca];rfl
 have hil:=hlog.len;have hzl:=hlog.zs;have hit:bm a6=bx L:=hlog.items;have hib:aaK (bx L)=aaK L:=aaS ..;have hend:=hlog.end_;have hilx:(bm a6).length<=1048576:=hil;have lff:aaK a8=0:=by rw[hf];rfl
 refine aY Tryz.func16 ?_;refine gx hA 3 ?_;refine gs (gs (gr (rn hA 1 ?_)));obtain⟨n8,g5,aJ⟩:=tE (aaN eA L) (pQ A hA (⟨⟨⟨a1,a2⟩,a7,a6,a3,a4,a5,a0⟩,a8⟩:aK) N L hx);have r3:=ab hA g5;refine aH aJ (.inr rfl) ?_ (hv:=by subst a9 b0 b1 b2;rfl);refine rn hA 1 ?_;obtain⟨q9,s3,r9,r8,q7,o1,k5,l6,l7,l4,e8,i6,cL⟩:=Rm [.agg [.sl 5 (ar n8)],.str u,.str (aaP #[105,110,98,111,120])] ((gL L u (aaP #[105,110,98,111,120])).Valid) ((gL L u (aaP #[105,110,98,111,120])).cv) ((gL L u (aaP #[105,110,98,111,120])).Name) ((gL L u (aaP #[105,110,98,111,120])).Next) (aaN fz ((gL L u (aaP #[105,110,98,111,120])).fQ)) (hasB L u (aaP #[105,110,98,111,120])) (by subst g5;simp only[je];exact uB A hA (⟨L⟩:cY) u (aaP #[105,110,98,111,120]) (rM gd));have q4:=ab hA e8;refine aH cL (.inl (by simp only[fresh,cj,k5,l6,l7,l4,e8,i6,y4,and_self])) ?_;refine rz hA 6 ?_;refine gx hA 1 ?_;refine gc (λc5=>?_) (λc5=>?_)
 ·
  refine gs (gr (rn hA 1 ?_));obtain⟨e3,f3,k7,n3,b9,c2,e2,g2,fq⟩:=tM (aaN ah a1) (aaN aU a2) (aaN bW a6) (aaN bq a8) a7 a3 a4 a5 a0 (ma A hA (⟨⟨⟨a1,a2⟩,a7,a6,a3,a4,a5,a0⟩,a8⟩:aK) hzs);have m8:=ab hA b9;have n9:=ab hA c2;have q0:=ab hA e2;have s1:=ab hA g2;refine aH fq (.inr rfl) ?_ (hv:=by subst a9 b0 b1 b2;rfl);refine rz hA 2 ?_;refine rt (gt ?_);show _=PV.aw [.agg [.ow 1 e3,.ow 2 f3,.ii a7,.ow 4 k7,.ii a3,.ii a4,.ii a5,.ii a0,.ow 1 n3],.ii 0];have hh:hasB L u cG=true:=by rw[<- (show o1=hasB L u cG from i6)];assumption
  rw[jz,tj,if_pos hh,if_pos hh];simp only[b9,c2,e2,g2];rfl
 refine gk (gs (gr (rn hA 3 ?_)));obtain⟨d7,e4,i8,i7,f6,f7,i3,f0,l5,q1,b7,c0,i2,d3,f1,f2,g4,e5,e6,p6,kA⟩:=Ul (aaN ah ((((mP A (⟨⟨⟨a1,a2⟩,a7,a6,a3,a4,a5,a0⟩,a8⟩:aK) L u).Log).ba).aD)) (aaN aU ((((mP A (⟨⟨⟨a1,a2⟩,a7,a6,a3,a4,a5,a0⟩,a8⟩:aK) L u).Log).ba).Cache)) (((mP A (⟨⟨⟨a1,a2⟩,a7,a6,a3,a4,a5,a0⟩,a8⟩:aK) L u).Log).ld) (aaN bW (((mP A (⟨⟨⟨a1,a2⟩,a7,a6,a3,a4,a5,a0⟩,a8⟩:aK) L u).Log).Used)) (((mP A (⟨⟨⟨a1,a2⟩,a7,a6,a3,a4,a5,a0⟩,a8⟩:aK) L u).Log).dZ) (((mP A (⟨⟨⟨a1,a2⟩,a7,a6,a3,a4,a5,a0⟩,a8⟩:aK) L u).Log).ea) (((mP A (⟨⟨⟨a1,a2⟩,a7,a6,a3,a4,a5,a0⟩,a8⟩:aK) L u).Log).fv) (((mP A (⟨⟨⟨a1,a2⟩,a7,a6,a3,a4,a5,a0⟩,a8⟩:aK) L u).Log).cT) (aaN bq ((mP A (⟨⟨⟨a1,a2⟩,a7,a6,a3,a4,a5,a0⟩,a8⟩:aK) L u).cW)) (BE L u) (Jq A hA (⟨⟨⟨a1,a2⟩,a7,a6,a3,a4,a5,a0⟩,a8⟩:aK) N L hx u kL zu);have m2:=ab hA b7;have m9:=ab hA c0;have p3:=ab hA d3;have q3:=ab hA e6;refine aH kA (.inr rfl) ?_ (hv:=by subst a9 b0 b1 b2;rfl);refine rz hA 4 ?_;refine rt (gt ?_);show _=PV.aw [.agg [.ow 1 d7,.ow 2 e4,.ii i8,.ow 4 i7,.ii f6,.ii f7,.ii i3,.ii f0,.ow 1 l5],.ii q1];have hh:hasB L u cG=false:=by rw[<- (show o1=hasB L u cG from i6)];assumption
 rw[jz,tj,if_neg (by rw[hh];decide),if_neg (by rw[hh];decide)];simp only[b7,c0,d3,e6,i2,f1,f2,g4,e5,p6];rfl
theorem Jr (A:ax)(hA:A=aj)(x:aK)(N:Int)(L:List aT)(hx:iQ A x N L)(u:ByteArray)(kL:L.length<=2)(zu:(aaL u:Int)<=4611686018427387904):al 28 [.agg (iv x),.agg [.ii 1,.str u,.str (aaP #[105,110,98,111,120]),.str aaM,.ii 0,.zc,.ii 0,.str aaM]] (.aw [.agg (kP (mP A x L u)),.ii (BE L u)]):=by
 obtain⟨⟨⟨a1,a2⟩,a7,a6,a3,a4,a5,a0⟩,a8⟩:=x;obtain⟨b3,a9,e9⟩:=nr hA ah a1;obtain⟨b4,b0,f5⟩:=nr hA bn a2;obtain⟨c3,b1,l2⟩:=nr hA cA a6;obtain⟨e1,b2,o6⟩:=nr hA bq a8;refine ak (az:=[.agg [.sl 1 b3,.sl 2 b4,.ii a7,.sl 4 c3,.ii a3,.ii a4,.ii a5,.ii a0,.sl 1 e1],.agg [.ii 1,.str u,.str (aaP #[105,110,98,111,120]),.str aaM,.ii 0,.zc,.ii 0,.str aaM]]) (by subst a9 b0 b1 b2;rfl) ?_;have hzs:=hx.zs;obtain⟨h,hf⟩:=hx;have hx:iQ A (⟨⟨⟨a1,a2⟩,a7,a6,a3,a4,a5,a0⟩,a8⟩:aK) N L:=⟨h,hf⟩;have hf:a8=[]:=hf;have hlog:=h;obtain⟨n5,jq,gd,l3,dk,ca,ln,sg,us,lng,lns,lsp,lnv,tx⟩:=h;have oE:eM ⟨a1,a2⟩:=dk;have ca:a2=[]:=ca;have ln:(aaK a1:Int)=8+N * 8:=ln;have sg:a7=N:=sg;have us:a6=[fB L]:=us;have lng:a3=2:=lng;have lns:a4=(aaK L:Int)+1:=lns;have lsp:a5=1:=lsp;have lnv:a0=(aaK L:Int)+1:=lnv;have uT:aaK a6=1:=by rw[us];rfl
 have lca:aaK a2=0:=by rw[ca];rfl
 have hil:=hlog.len;have hzl:=hlog.zs;have hit:bm a6=bx L:=hlog.items;have hib:aaK (bx L)=aaK L:=aaS ..;have hend:=hlog.end_;have hilx:(bm a6).length<=1048576:=hil;have lff:aaK a8=0:=by rw[hf];rfl
 refine aY Tryz.func28 ?_;refine gx hA 4 ?_;refine gs ?_;refine cz [0,1,2,3,4,5,6,7,8,10,9,11] (by cbv) ?_;refine bL hA 1 ?_;obtain⟨p4,m3,aJ⟩:=tE (aaN eA L) (lj A hA (⟨⟨⟨a1,a2⟩,a7,a6,a3,a4,a5,a0⟩,a8⟩:aK) N L hx);have w3:=ab hA m3;have v9:A.ao (ar p4)=(aaK L:Int):=ab hA (by rw[m3];exact je _);refine eQ aJ (.inr rfl) ?_ (hv:=by subst a9 b0 b1 b2;rfl);refine bL hA 4 ?_;obtain⟨d4,p1,o4,r7,cL⟩:=Rl [.agg [.sl 5 (ar p4)],.ii a0,.agg [.ii 1,.str u,.str (aaP #[105,110,98,111,120]),.str aaM,.ii 0,.zc,.ii 0,.str aaM]] (aaN gY (oq L a0 u)) (dN L a0 u) (by subst m3;simp only[je];exact Gz A hA (⟨L⟩:cY) a0 u zu (rM gd));have w5:=ab hA o4;refine eQ cL (.inr rfl) ?_;refine dz hA 5 ?_;refine gs (gx hA 2 ?_);refine gc (λc5=>?_) (λc5=>?_)
 ·
  have c6:p1=false:=ck hA c5;refine gs (gr (rn hA 1 ?_));obtain⟨n4,o8,q5,s7,i1,j3,n1,p0,jQ⟩:=tM (aaN ah a1) (aaN aU a2) (aaN bW a6) (aaN bq a8) a7 a3 a4 a5 a0 (mr A hA (⟨⟨⟨a1,a2⟩,a7,a6,a3,a4,a5,a0⟩,a8⟩:aK) hzs);have s5:=ab hA i1;have s8:=ab hA j3;have v2:=ab hA n1;have w1:=ab hA p0;refine aH jQ (.inr rfl) ?_ (hv:=by subst a9 b0 b1 b2;rfl);refine rz hA 2 ?_;refine rt (gt ?_);show _=PV.aw [.agg [.ow 1 n4,.ow 2 o8,.ii a7,.ow 4 q5,.ii a3,.ii a4,.ii a5,.ii a0,.ow 1 s7],.ii 1];have hmx:dN L ((L.length:Int)+1) u=false:=by rw[<- lnv,<- (show p1=dN L a0 u from r7)];assumption
  rw[mP,BE,if_neg (by rw[hmx];decide),if_neg (by rw[hmx];decide)];simp only[i1,j3,n1,p0];rfl
 have c9:p1=true:=cm hA c5;refine gk (gs ?_);have hmx:dN L a0 u=true:=by rw[<- (show p1=dN L a0 u from r7)];assumption
 have hm:dN L ((L.length:Int)+1) u=true:=by rw[<- lnv];exact hmx
 have oZ:oq L a0 u=[cF a0 u]:=by rw[oq,if_pos hmx]
 have le:A.ao d4=(1:Int):=by rw[o4,oZ];subst hA;rfl
 refine gy hA 1 ?_;refine gs (gx hA 1 ?_);refine af ?_;refine pY 2 ?_;refine gK ?_;refine gs (gx hA 4 ?_);refine gc (λcB=>?_) (λcB=>?_)
 ·
  have u8:0 < (A.ao d4):=aP hA cB;refine gk (gs (af (gr (rn hA 3 ?_))));have t1:d4[aaO 0]? =some [.ii 1,.ii a0,.ii 0,.ii 1,.ii 0,.str u,.str (aaP #[105,110,98,111,120]),.str aaM]:=by rw[o4,oZ];rfl
  refine ee (by omega) t1 ?_;refine rn hA 1 ?_;obtain⟨t5,w9,u5⟩:=tb (Ho A hA a0 u (by omega) (by omega) (mH hm));refine aH u5 (.inr rfl) ?_;refine rz hA 3 ?_;refine gy hA 3 ?_;refine mj (mZ:=({sl:=.aa::.aa::.pt 2 0 0::.aa::.pt 4 0 0::.aa::.sl 8 d4::.aa::.ii (A.num .add .i64 (A.num .add .i64 0 t5) 10)::.ii 1::Ts,bl:=[(4,⟨.var,9,[[.zc,.zc,.ii 0,.zc,.ii 0,.ii 0,.ii 0,.ii 0,.zc]]⟩),(2,⟨.var,9,[[.sl 1 b3,.sl 2 b4,.ii a7,.sl 4 c3,.ii a3,.ii a4,.ii a5,.ii a0,.sl 1 e1]]⟩)]}:St)) [] [2,4,6,8,9] [4,2] rfl (by subst hA;rfl) ?_;refine gK ?_;refine gs (gx hA 4 ?_);refine gc (λdF=>?_) (λdF=>?_)
  ·
   have u9:1 < (A.ao d4):=aP hA dF;exfalso;omega
  have u9:(A.ao d4)<=1:=aQ hA dF;refine aI (gE ?_);refine gs (gr (rn hA 2 ?_));obtain⟨c7,d0,f9,j5,b8,c1,d6,f4,u0⟩:=ZL (aaN ah a1) (aaN bn a2) (aaN cA a6) (aaN bq a8) a7 a3 a4 a5 a0 (FR A hA (⟨⟨⟨a1,a2⟩,a7,a6,a3,a4,a5,a0⟩,a8⟩:aK) (A.num .add .i64 (A.num .add .i64 0 t5) 10) N L hx);have m5:=ab hA b8;have n6:=ab hA c1;have p8:=ab hA d6;have r1:=ab hA f4;refine aH u0 (.inr rfl) ?_ (hv:=by subst a9 b0 b1 b2;rfl);refine rz hA 2 ?_;refine gs (gr (rn hA 1 ?_));obtain⟨d9,e7,k1,m4,b5,b6,c8,e0,u2⟩:=tM (aaN ah a1) (aaN aU a2) (aaN bW a6) (aaN bq a8) a7 a3 a4 a5 a0 (mr A hA (⟨⟨⟨a1,a2⟩,a7,a6,a3,a4,a5,a0⟩,a8⟩:aK) hzs);have m7:=ab hA b5;have n7:=ab hA b6;have p7:=ab hA c8;have q8:=ab hA e0;refine aH u2 (.inr rfl) ?_ (hv:=by subst b8 c1 d6 f4;rfl);refine rz hA 2 ?_;refine gs (gx hA 1 ?_);refine af ?_;refine pY 2 ?_;refine gK ?_;refine gs (gx hA 4 ?_);refine gc (λlY=>?_) (λlY=>?_)
  ·
   have t9:0 < (A.ao d4):=aP hA lY;refine gk (gs (af (gs ?_)));refine cR [0,1,2,3,4,5,6,7,10,8,9,11] (by cbv) ?_;refine cH hA 3 ?_;have t0:d4[aaO 0]? =some [.ii 1,.ii a0,.ii 0,.ii 1,.ii 0,.str u,.str (aaP #[105,110,98,111,120]),.str aaM]:=by rw[o4,oZ];rfl
   refine dc rfl rfl (jO rfl rfl rfl rfl rfl (by omega) rfl t0) ?_;refine cH hA 1 ?_;obtain⟨g0,i0,m1,m0,j9,j6,k8,i5,o0,r4,d1,d8,l1,g3,j2,j4,k3,g7,j7,t4,u1⟩:=FB [.agg [.sl 1 (ar d9),.sl 2 (ar e7),.ii a7,.sl 4 (ar k1),.ii a3,.ii a4,.ii a5,.ii a0,.sl 1 (ar m4)],.agg [.ii 1,.ii a0,.ii 0,.ii 1,.ii 0,.str u,.str (aaP #[105,110,98,111,120]),.str aaM]] (aaN ah ((((ll A (⟨⟨⟨a1,a2⟩,a7,a6,a3,a4,a5,a0⟩,a8⟩:aK) L u).Log).ba).aD)) (aaN aU ((((ll A (⟨⟨⟨a1,a2⟩,a7,a6,a3,a4,a5,a0⟩,a8⟩:aK) L u).Log).ba).Cache)) (((ll A (⟨⟨⟨a1,a2⟩,a7,a6,a3,a4,a5,a0⟩,a8⟩:aK) L u).Log).ld) (aaN bW (((ll A (⟨⟨⟨a1,a2⟩,a7,a6,a3,a4,a5,a0⟩,a8⟩:aK) L u).Log).Used)) (((ll A (⟨⟨⟨a1,a2⟩,a7,a6,a3,a4,a5,a0⟩,a8⟩:aK) L u).Log).dZ) (((ll A (⟨⟨⟨a1,a2⟩,a7,a6,a3,a4,a5,a0⟩,a8⟩:aK) L u).Log).ea) (((ll A (⟨⟨⟨a1,a2⟩,a7,a6,a3,a4,a5,a0⟩,a8⟩:aK) L u).Log).fv) (((ll A (⟨⟨⟨a1,a2⟩,a7,a6,a3,a4,a5,a0⟩,a8⟩:aK) L u).Log).cT) (aaN bq ((ll A (⟨⟨⟨a1,a2⟩,a7,a6,a3,a4,a5,a0⟩,a8⟩:aK) L u).cW)) 0 (by subst b5 b6 c8 e0;simp only[js,im,bS,cE];exact LZ A hA (⟨⟨⟨a1,a2⟩,a7,a6,a3,a4,a5,a0⟩,a8⟩:aK) N L hx u a0 kL hm lnv);have q6:=ab hA d1;have s2:=ab hA d8;have t6:=ab hA g3;have v3:=ab hA j7;refine nc u1 (.inl (by simp only[fresh,cj,d1,d8,l1,g3,j2,j4,k3,g7,j7,t4,kc,nA,dy,ev,and_self])) ?_;refine cH hA 6 ?_;refine cS (by cbv) ?_;refine gs (gx hA 2 ?_);refine gc (λjR=>?_) (λjR=>?_)
   ·
    have u6:r4≠0:=gp hA jR;exfalso;omega
   have u6:r4=0:=gq hA jR;refine gk (gy hA 2 ?_);refine gy hA 3 ?_;refine mj (mZ:=({sl:=iB++.pt 4 0 0::.aa::.sl 8 d4::dV++.pt 10 0 0::.pt 11 0 0::.ii 1::NP,bl:=[(60,⟨.arr,1,g0⟩),(1060,⟨.arr,2,i0⟩),(3060,⟨.arr,4,m0⟩),(8060,⟨.arr,1,o0⟩),(11,⟨.var,9,[[.own 60,.own 1060,.ii m1,.own 3060,.ii j9,.ii j6,.ii k8,.ii i5,.own 8060]]⟩),(10,⟨.var,9,[[.sl 1 c7,.sl 2 d0,.ii a7,.sl 4 f9,.ii a3,.ii a4,.ii a5,.ii a0,.sl 1 j5]]⟩),(4,⟨.var,9,[[.zc,.zc,.ii 0,.zc,.ii 0,.ii 0,.ii 0,.ii 0,.zc]]⟩)]}:St)) [] [4,6,10,11,12] [60,1060,3060,8060,11,10,4] rfl (by subst hA;rfl) ?_;refine gK ?_;refine gs (gx hA 4 ?_);refine gc (λjW=>?_) (λjW=>?_)
   ·
    have u4:1 < (A.ao d4):=aP hA jW;exfalso;omega
   have u4:(A.ao d4)<=1:=aQ hA jW;refine aI (gE ?_);refine gx hA 3 ?_;refine rt (gt ?_);show _=PV.aw [.agg [.ow 1 g0,.ow 2 i0,.ii m1,.ow 4 m0,.ii j9,.ii j6,.ii k8,.ii i5,.ow 1 o0],.ii 0];rw[mP,BE,if_pos hm,if_pos hm];simp only[d1,d8,g3,j7,l1,j2,j4,k3,g7];rfl
  have t9:(A.ao d4)<=0:=aQ hA lY;exfalso;omega
 have u8:(A.ao d4)<=0:=aQ hA cB;exfalso;omega
theorem D9 (A:ax)(hA:A=aj)(x:aK)(N:Int)(L:List aT)(hx:iQ A x N L)(u:ByteArray)(kL:L.length<=2)(zu:(aaL u:Int)<=4611686018427387904):al 14 [.agg (iv x),.str u] (.aw [.agg (kP (jz A x L u)),.ii (tj L u)]):=by
 obtain⟨⟨⟨a1,a2⟩,a7,a6,a3,a4,a5,a0⟩,a8⟩:=x;obtain⟨b3,a9,e9⟩:=nr hA ah a1;obtain⟨b4,b0,f5⟩:=nr hA bn a2;obtain⟨c3,b1,l2⟩:=nr hA cA a6;obtain⟨e1,b2,o6⟩:=nr hA bq a8;refine ak (az:=[.agg [.sl 1 b3,.sl 2 b4,.ii a7,.sl 4 c3,.ii a3,.ii a4,.ii a5,.ii a0,.sl 1 e1],.str u]) (by subst a9 b0 b1 b2;rfl) ?_;have hzs:=hx.zs;obtain⟨h,hf⟩:=hx;have hx:iQ A (⟨⟨⟨a1,a2⟩,a7,a6,a3,a4,a5,a0⟩,a8⟩:aK) N L:=⟨h,hf⟩;have hf:a8=[]:=hf;have hlog:=h;obtain⟨n5,jq,gd,l3,dk,ca,ln,sg,us,lng,lns,lsp,lnv,tx⟩:=h;have oE:eM ⟨a1,a2⟩:=dk;have ca:a2=[]:=ca;have ln:(aaK a1:Int)=8+N * 8:=ln;have sg:a7=N:=sg;have us:a6=[fB L]:=us;have lng:a3=2:=lng;have lns:a4=(aaK L:Int)+1:=lns;have lsp:a5=1:=lsp;have lnv:a0=(aaK L:Int)+1:=lnv;have uT:aaK a6=1:=by rw[us];rfl
 have lca:aaK a2=0:=by rw[ca];rfl
 have hil:=hlog.len;have hzl:=hlog.zs;have hit:bm a6=bx L:=hlog.items;have hib:aaK (bx L)=aaK L:=aaS ..;have hend:=hlog.end_;have hilx:(bm a6).length<=1048576:=hil;have lff:aaK a8=0:=by rw[hf];rfl
 refine aY Tryz.func14 ?_;refine gx hA 3 ?_;refine gs (gr (rn hA 1 ?_));obtain⟨n8,g5,aJ⟩:=tE (aaN eA L) (lj A hA (⟨⟨⟨a1,a2⟩,a7,a6,a3,a4,a5,a0⟩,a8⟩:aK) N L hx);have r3:=ab hA g5;refine aH aJ (.inr rfl) ?_ (hv:=by subst a9 b0 b1 b2;rfl);refine rn hA 1 ?_;obtain⟨q9,s3,r9,r8,q7,o1,k5,l6,l7,l4,e8,i6,cL⟩:=Rm [.agg [.sl 5 (ar n8)],.str u,.str (aaP #[105,110,98,111,120])] ((gL L u (aaP #[105,110,98,111,120])).Valid) ((gL L u (aaP #[105,110,98,111,120])).cv) ((gL L u (aaP #[105,110,98,111,120])).Name) ((gL L u (aaP #[105,110,98,111,120])).Next) (aaN fz ((gL L u (aaP #[105,110,98,111,120])).fQ)) (hasB L u (aaP #[105,110,98,111,120])) (by subst g5;simp only[je];exact AU A hA (⟨L⟩:cY) u (aaP #[105,110,98,111,120]) (rM gd));have q4:=ab hA e8;refine aH cL (.inl (by simp only[fresh,cj,k5,l6,l7,l4,e8,i6,y4,and_self])) ?_;refine rz hA 6 ?_;refine gs (gx hA 1 ?_);refine gc (λc5=>?_) (λc5=>?_)
 ·
  refine gs (gr (rn hA 1 ?_));obtain⟨e3,f3,k7,n3,b9,c2,e2,g2,fq⟩:=tM (aaN ah a1) (aaN aU a2) (aaN bW a6) (aaN bq a8) a7 a3 a4 a5 a0 (mr A hA (⟨⟨⟨a1,a2⟩,a7,a6,a3,a4,a5,a0⟩,a8⟩:aK) hzs);have m8:=ab hA b9;have n9:=ab hA c2;have q0:=ab hA e2;have s1:=ab hA g2;refine aH fq (.inr rfl) ?_ (hv:=by subst a9 b0 b1 b2;rfl);refine rz hA 2 ?_;refine rt (gt ?_);show _=PV.aw [.agg [.ow 1 e3,.ow 2 f3,.ii a7,.ow 4 k7,.ii a3,.ii a4,.ii a5,.ii a0,.ow 1 n3],.ii 0];have hh:hasB L u cG=true:=by rw[<- (show o1=hasB L u cG from i6)];assumption
  rw[jz,tj,if_pos hh,if_pos hh];simp only[b9,c2,e2,g2];rfl
 refine gk (gs (gr (rn hA 3 ?_)));obtain⟨d7,e4,i8,i7,f6,f7,i3,f0,l5,q1,b7,c0,i2,d3,f1,f2,g4,e5,e6,p6,kA⟩:=Ul (aaN ah ((((mP A (⟨⟨⟨a1,a2⟩,a7,a6,a3,a4,a5,a0⟩,a8⟩:aK) L u).Log).ba).aD)) (aaN aU ((((mP A (⟨⟨⟨a1,a2⟩,a7,a6,a3,a4,a5,a0⟩,a8⟩:aK) L u).Log).ba).Cache)) (((mP A (⟨⟨⟨a1,a2⟩,a7,a6,a3,a4,a5,a0⟩,a8⟩:aK) L u).Log).ld) (aaN bW (((mP A (⟨⟨⟨a1,a2⟩,a7,a6,a3,a4,a5,a0⟩,a8⟩:aK) L u).Log).Used)) (((mP A (⟨⟨⟨a1,a2⟩,a7,a6,a3,a4,a5,a0⟩,a8⟩:aK) L u).Log).dZ) (((mP A (⟨⟨⟨a1,a2⟩,a7,a6,a3,a4,a5,a0⟩,a8⟩:aK) L u).Log).ea) (((mP A (⟨⟨⟨a1,a2⟩,a7,a6,a3,a4,a5,a0⟩,a8⟩:aK) L u).Log).fv) (((mP A (⟨⟨⟨a1,a2⟩,a7,a6,a3,a4,a5,a0⟩,a8⟩:aK) L u).Log).cT) (aaN bq ((mP A (⟨⟨⟨a1,a2⟩,a7,a6,a3,a4,a5,a0⟩,a8⟩:aK) L u).cW)) (BE L u) (Jr A hA (⟨⟨⟨a1,a2⟩,a7,a6,a3,a4,a5,a0⟩,a8⟩:aK) N L hx u kL zu);have m2:=ab hA b7;have m9:=ab hA c0;have p3:=ab hA d3;have q3:=ab hA e6;refine aH kA (.inr rfl) ?_ (hv:=by subst a9 b0 b1 b2;rfl);refine rz hA 4 ?_;refine rt (gt ?_);show _=PV.aw [.agg [.ow 1 d7,.ow 2 e4,.ii i8,.ow 4 i7,.ii f6,.ii f7,.ii i3,.ii f0,.ow 1 l5],.ii q1];have hh:hasB L u cG=false:=by rw[<- (show o1=hasB L u cG from i6)];assumption
 rw[jz,tj,if_neg (by rw[hh];decide),if_neg (by rw[hh];decide)];simp only[b7,c0,d3,e6,i2,f1,f2,g4,e5,p6];rfl
theorem Rq (A:ax)(hA:A=aj)(N:Int)(n5:5<=N)(jq:N<=11):rY 48 [.ow 1 (aaN ah (gN N)),.ow 2 (aaN aU ([]:List br)),.ii N,.ow 4 (aaN bW ([]:List bu)),.ii 1,.ii 1,.ii 0,.ii 1] [.ii 0] [.ow 1 (aaN ah (pb A N)),.ow 2 (aaN aU ([]:List br)),.ii N,.ow 4 (aaN bW ([⟨0,1,10,[]⟩]:List bu)),.ii 2,.ii 1,.ii 0,.ii 1] (.bool true):=by
 obtain⟨rs,hrs⟩:=nm (aaN ah (gN N));have lrs:=ab hA hrs;obtain⟨rc,hrc⟩:=nm (aaN aU ([]:List br));have lrc:=ab hA hrc;obtain⟨ru,hru⟩:=nm (aaN bW ([]:List bu));have lru:=ab hA hru;refine yk (Mw:=[.ow 1 rs,.ow 2 rc,.ii N,.ow 4 ru,.ii 1,.ii 1,.ii 0,.ii 1]) (by subst hrs hrc hru;rfl) rfl rfl ?_;have lk0:(aaK (gN N):Int)=8+N * 8:=DM n5;have vd:eM ⟨gN N,[]⟩:=xH n5 jq;have lfr:1<=aaK (mc N []):=IF n5;refine EI nQ Tryz.func48 (by kernel_rfl) (uk rfl (by cbv) (by cbv) (λhv=>?_));refine gx hA 1 ?_;refine gs (gr (rn hA 3 ?_));obtain⟨a6,a5,aJ⟩:=JS [.agg [.sl 1 (ar rs),.sl 2 (ar rc),.ii N,.sl 4 (ar ru),.ii 1,.ii 1,.ii 0,.ii 1]] (aaN bq (mc N ([]:List bu))) (by subst hrs hrc hru;simp only[im,bS,cE];exact vY A hA (⟨⟨(gN N),([]:List br)⟩,N,([]:List bu),1,1,0,1⟩:bF) (aaW _));have d1:=ab hA a5;refine aH aJ (.inl (by simp only[fresh,cj,a5,kc,and_self])) ?_;refine rz hA 1 ?_;refine gs (gs (gr (rn hA 3 ?_)));refine ag 16 rfl (λc3=>?_) (λc3=>?_)
 ·
  exact ay c3 (by subst hA;rfl)
 refine rz hA 5 ?_;refine gc (λc4=>?_) (λc4=>?_)
 ·
  have du:(A.ao a6)<=0:=JK hA c4;exfalso;omega
 have du:0 < (A.ao a6):=JL hA c4;refine gk (gs (gr (rn hA 5 ?_)));obtain⟨a0,a9,kU⟩:=qY (gi A (dp A) (iw A) (⟨1,1,(aaP #[115,101,103])⟩:aC)) true (Bz A hA (⟨1,1,(aaP #[115,101,103])⟩:aC) qg);refine aH kU (.inr rfl) ?_;refine rz hA 5 ?_;refine gs ?_;have wt:a0=C1 A:=by rw[a9];exact GM hA qg
 have zt:aaL a0=10:=by rw[wt];exact yS hA
 have zs:=aS hA a0;refine cR [0,1,2,3,4,5,6,7,8,9,10,13,11,12,14] (by cbv) ?_;refine cH hA 5 ?_;obtain⟨c0,d5,x7,ov,d3⟩:=ga (mc N ([]:List bu)) 0 (by omega) (by omega);have c1:a6[(aaO 0)]? =some [.ii x7]:=by
  exact bC bq a5 ov
 have c5:x7=0:=Option.some.inj (ov.symm.trans (Fh n5));have c7:0 < (aaK a6:Int):=by
  rw[a5,aaS];omega
 refine dc rfl rfl (kO rfl rfl rfl rfl rfl rfl c0 c7 rfl) ?_;refine dc rfl rfl (jM rfl rfl rfl rfl c1 rfl) ?_;refine cH hA 1 ?_;obtain⟨a7,a8,a1,a3,d0⟩:=uZ [.agg [.sl 1 (ar rs),.sl 2 (ar rc)],.ii x7,.ii 0,.str a0] (aaN ah (gN N)) (aaN aU (wr (gN N) (aaO (8+x7 * 8)) (aaO 0) a0)) true (by subst hrs hrc;simp only[bS,cE];exact wj A hA (⟨(gN N),([]:List br)⟩:bj) x7 0 a0 vd rfl (by omega) (by omega) (by show(16:Int)+x7 * 8<=(aaK (gN N):Int);omega) (by omega) (by omega));have b1:=ab hA a1;have b5:=ab hA a3;refine nc d0 (.inl (by simp only[fresh,cj,a1,a3,dy,ev,and_self])) ?_;refine cH hA 6 ?_;refine cS (by cbv) ?_;refine gs (gs (gr (rn hA 3 ?_)));refine ag 45 rfl (λcf=>?_) (λcf=>?_)
 ·
  exact ay cf (by subst hA;rfl)
 refine rn hA 4 ?_;refine ag 49 rfl (λcZ=>?_) (λcZ=>?_)
 ·
  exact ay cZ (by subst hA;rfl)
 refine rz hA 6 ?_;refine gc (λeU=>?_) (λeU=>?_)
 ·
  exact ay eU (by subst hA;rfl)
 refine gk (gs (gB (rn hA 2 ?_)));obtain⟨b6,c6,a2,a4,c8⟩:=xT [.agg [.sl 1 (ar a7),.sl 2 (ar a8)]] (aaN ah (fl (gN N) (wr (gN N) (aaO (8+x7 * 8)) (aaO 0) a0))) (aaN aU ([])) (by subst a1 a3;simp only[bS,cE];exact pP A hA (⟨(gN N),wr (gN N) (aaO (8+x7 * 8)) (aaO 0) a0⟩:bj) (Cf vd (by omega) (by omega)));have b2:=ab hA a2;have b7:=ab hA a4;refine aH c8 (.inl (by simp only[fresh,cj,a2,a4,dy,ev,and_self])) ?_;refine rn hA 3 ?_;refine bY (tw:=[.freeze 1000004000]) (by cbv) ?_;refine gs ?_;refine cR [0,1,2,3,4,5,6,7,8,9,10,11,12,13,14,15,16,17,18,19,20,21] (by cbv) ?_;refine cH hA 6 ?_;obtain⟨CZ,b9⟩:=nm (([])++(ar ru):RR);have b0:CZ=aaN bW (([])++([]:List bu)):=by rw[b9];exact cM rfl (by rw[hru];rfl)
 have d4:=ab hA b0;refine iF rfl rfl rfl rfl rfl rfl rfl (ij rfl rfl rfl rfl rfl rfl rfl rfl b9 (by cbv) (by cbv) (by cbv) rfl (by
  show(aaK ([])+aaK (ar ru)) * _<=_;rw[hru];decide) (by decide) (by decide)) ?_
 refine cH hA 1 ?_;have b8:0 < (aaK a6:Int):=by
  rw[a5,aaS];omega
 refine dc rfl rfl (kO rfl rfl rfl rfl rfl rfl c0 b8 rfl) ?_;refine dc rfl rfl (jM rfl rfl rfl rfl c1 rfl) ?_;refine cH hA 8 ?_;obtain⟨Yg,c2⟩:=nm (CZ++[[.ii x7,.ii 1,.ii (A.bA a0),.zc]]:RR);refine iF rfl rfl rfl rfl rfl rfl rfl (ij rfl rfl rfl rfl rfl rfl rfl rfl c2 (by cbv) (by cbv) (by cbv) rfl (by
  show(aaK CZ+1) * _<=_;show(aaK CZ+1) * 48<=_;rw[b0,aaS];simp only[List.length_nil,aaY,List.length_cons];omega) (by decide) (by decide)) ?_
 refine cH hA 3 ?_;refine cS (by cbv) ?_;refine gs ?_;obtain⟨c9,b4⟩:=nm (pc 9 Yg:RR);have b3:c9=aaN bW ([]++([]:List bu)++[(⟨x7,1,(A.bA a0),[]⟩:bu)]):=by rw[b4,c2];exact Gd b0 IW rfl
 have d2:=ab hA b3;refine B2 [.zY 62 9] (yl rfl b4.symm) ?_;refine rz hA 8 ?_;refine gx hA 1 ?_;refine kT (xh rfl rfl (by cbv) rfl (by cbv) ?_ ?_)
 ·
  have w1:fl (gN N) (wr (gN N) (aaO (8+x7 * 8)) (aaO 0) a0)=pb A N:=by rw[wt,c5];rfl
  have w2:A.num .add .i64 1 1=2:=by subst hA;rfl
  have w3:A.bA a0=10:=by omega
  simp only[a2,a4,b3,w1,w2,w3];simp only[c5,List.nil_append]
 rfl
theorem Jp (A:ax)(hA:A=aj)(n:Int)(hc:n=1):al 117 [.ii n] (.ii 4):=by
 refine aY Tryz.func117 ?_;refine gx hA 1 ?_;refine gx hA 4 ?_;refine rt (gt ?_);show _=(PV.int .i64 (A.num .mul .i64 4 (A.num .rem .i64 n 2)));refine congrArg (PV.int .i64) ?_;rw[hc];subst hA;rfl
theorem Ct (A:ax)(hA:A=aj)(d:bj)(c:df)(hc:c=Nb)(hd:eM d)(he:d.Cache=[])(hl:16<=d.aD.length):al 62 [.agg (gf d),.agg (xU c)] (.aw [.agg (jo ⟨fl d.aD (wr d.aD 4 0 (xG A)),[]⟩),.bool true]):=by
 obtain⟨a0,a8⟩:=d;obtain⟨c0,a3,d6⟩:=nr hA ah a0;obtain⟨c1,a5,d7⟩:=nr hA bn a8;obtain⟨a1,a6,a7,a4,b3⟩:=c;obtain⟨c4,b6,d8⟩:=nr hA lW b3;refine ak (az:=[.agg [.sl 1 c0,.sl 2 c1],.agg [.ii a1,.ii a6,.ii a7,.ii a4,.sl 2 c4]]) (by subst a3 a5 b6;rfl) ?_;have k0:a1=1:=congrArg df.fv hc;have k1:a6=2:=congrArg df.dZ hc;have k2:a7=1:=congrArg df.ea hc;have k3:a4=1:=congrArg df.cT hc;have k4:b3=[⟨0,1⟩]:=congrArg df.Refs hc;have lk:aaK b3=1:=by rw[k4];rfl
 have hl:16<=aaK a0:=hl;have he:a8=[]:=he;have vd:eM ⟨a0,[]⟩:=by rw[he] at hd;exact hd
 have zk:=yQ A;have wr4:A.num .mul .i64 4 (A.num .rem .i64 a1 2)=4:=by rw[k0];subst hA;rfl
 refine aY Tryz.func62 ?_;refine gx hA 4 ?_;refine gs (gr (rn hA 1 ?_));obtain⟨a2,b9,aJ⟩:=qY (xG A) true (D4 A hA (⟨a1,a6,a7,a4,b3⟩:df) hc);refine aH aJ (.inr rfl) ?_ (hv:=by subst b6;rfl);refine rz hA 5 ?_;refine gs (gs (gr (rn hA 1 ?_)));have cL:=nj A hA (⟨a0,a8⟩:bj) hd;refine aH cL (.inr rfl) ?_ (hv:=by subst a3 a5;rfl);refine rn hA 2 ?_;refine ag 18 rfl (λc5=>?_) (λc5=>?_)
 ·
  exact ay c5 (by subst hA;rfl)
 refine rz hA 3 ?_;refine gc (λc6=>?_) (λc6=>?_)
 ·
  exact ay c6 (by subst hA;rfl)
 refine gk (gs ?_);have zt:aaL a2=12:=by rw[b9];exact zk
 refine cR [0,1,2,3,4,5,6,7,10,8,9,11] (by cbv) ?_;refine cH hA 3 ?_;obtain⟨c2,e7,jQ⟩:=tb (Jp A hA a1 k0);refine CG jQ (.inr rfl) ?_;refine cH hA 1 ?_;obtain⟨c7,d2,a9,b5,e8⟩:=FA (aaN ah a0) (aaN aU (wr a0 (aaO c2) (aaO 0) a2)) true (tf A hA (⟨a0,a8⟩:bj) c2 0 a2 hd he (by omega) (by show(c2:Int) < (aaK a0:Int);omega) (by omega) (by show(c2:Int) * 32+0+(aaL a2:Int)<=32 * (aaK a0:Int);omega) (by omega));have e0:=ab hA a9;have e3:=ab hA b5;refine nc e8 (.inr rfl) ?_ (hv:=by subst a3 a5;rfl);refine cH hA 6 ?_;refine cS (by cbv) ?_;refine gs (gx hA 2 ?_);refine gc (λcf=>?_) (λcf=>?_)
 ·
  exact ay cf (by subst hA;rfl)
 refine gk (gs (gr (rn hA 1 ?_)));obtain⟨d0,d4,b1,b7,e9⟩:=xT [.agg [.sl 1 (ar c7),.sl 2 (ar d2)]] (aaN ah (fl a0 (wr a0 (aaO c2) (aaO 0) a2))) (aaN aU ([])) (by subst a9 b5;simp only[bS,cE];exact pO A hA (⟨a0,wr a0 (aaO c2) (aaO 0) a2⟩:bj) (Cf vd (by omega) (by omega)));have e1:=ab hA b1;have e5:=ab hA b7;refine aH e9 (.inl (by simp only[fresh,cj,b1,b7,dy,ev,and_self])) ?_;refine rz hA 2 ?_;refine rt (gt ?_);show _=PV.aw [.agg [.ow 1 d0,.ow 2 d4],.bool true];simp only[b1,b7,b9,e7,a9,b5];rfl
theorem Cu (A:ax)(hA:A=aj)(d:bj)(c:df)(hc:c=Nb)(hd:eM d)(he:d.Cache=[])(hl:16<=d.aD.length):al 49 [.agg (gf d),.agg (xU c)] (.aw [.agg (jo ⟨fl d.aD (wr d.aD 4 0 (xG A)),[]⟩),.bool true]):=by
 obtain⟨a0,a8⟩:=d;obtain⟨c0,a3,d6⟩:=nr hA ah a0;obtain⟨c1,a5,d7⟩:=nr hA bn a8;obtain⟨a1,a6,a7,a4,b3⟩:=c;obtain⟨c4,b6,d8⟩:=nr hA lW b3;refine ak (az:=[.agg [.sl 1 c0,.sl 2 c1],.agg [.ii a1,.ii a6,.ii a7,.ii a4,.sl 2 c4]]) (by subst a3 a5 b6;rfl) ?_;have k0:a1=1:=congrArg df.fv hc;have k1:a6=2:=congrArg df.dZ hc;have k2:a7=1:=congrArg df.ea hc;have k3:a4=1:=congrArg df.cT hc;have k4:b3=[⟨0,1⟩]:=congrArg df.Refs hc;have lk:aaK b3=1:=by rw[k4];rfl
 have hl:16<=aaK a0:=hl;have he:a8=[]:=he;have vd:eM ⟨a0,[]⟩:=by rw[he] at hd;exact hd
 have zk:=yQ A;have wr4:A.num .mul .i64 4 (A.num .rem .i64 a1 2)=4:=by rw[k0];subst hA;rfl
 refine aY Tryz.func49 ?_;refine gx hA 4 ?_;refine gs (gr (rn hA 1 ?_));obtain⟨a2,b9,aJ⟩:=qY (xG A) true (D5 A hA (⟨a1,a6,a7,a4,b3⟩:df) hc);refine aH aJ (.inr rfl) ?_ (hv:=by subst b6;rfl);refine rz hA 5 ?_;refine gs (gs (gr (rn hA 3 ?_)));refine ag 17 rfl (λc3=>?_) (λc3=>?_)
 ·
  exact ay c3 (by subst hA;rfl)
 refine rn hA 1 ?_;have eu:=nk A hA (⟨a0,a8⟩:bj) hd;refine fC eu (.inr rfl) ?_ (hv:=by subst a3 a5;rfl);refine rz hA 2 ?_;refine gc (λc6=>?_) (λc6=>?_)
 ·
  exact ay c6 (by subst hA;rfl)
 refine gk (gs ?_);have zt:aaL a2=12:=by rw[b9];exact zk
 refine gr (rn hA 6 ?_);obtain⟨c8,d3,b0,b4,jQ⟩:=FA (aaN ah a0) (aaN aU (wr a0 (aaO (A.num .mul .i64 4 (A.num .rem .i64 a1 2))) (aaO 0) a2)) true (th A hA (⟨a0,a8⟩:bj) (A.num .mul .i64 4 (A.num .rem .i64 a1 2)) 0 a2 hd he (by omega) (by show((A.num .mul .i64 4 (A.num .rem .i64 a1 2)):Int) < (aaK a0:Int);omega) (by omega) (by show((A.num .mul .i64 4 (A.num .rem .i64 a1 2)):Int) * 32+0+(aaL a2:Int)<=32 * (aaK a0:Int);omega) (by omega));have d9:=ab hA b0;have e4:=ab hA b4;refine aH jQ (.inr rfl) ?_ (hv:=by subst a3 a5;rfl);refine rz hA 6 ?_;refine gs (gx hA 2 ?_);refine gc (λc9=>?_) (λc9=>?_)
 ·
  exact ay c9 (by subst hA;rfl)
 refine gk (gs (gr (rn hA 1 ?_)));obtain⟨d1,d5,b2,b8,f0⟩:=xT [.agg [.sl 1 (ar c8),.sl 2 (ar d3)]] (aaN ah (fl a0 (wr a0 (aaO (A.num .mul .i64 4 (A.num .rem .i64 a1 2))) (aaO 0) a2))) (aaN aU ([])) (by subst b0 b4;simp only[bS,cE];exact pP A hA (⟨a0,wr a0 (aaO (A.num .mul .i64 4 (A.num .rem .i64 a1 2))) (aaO 0) a2⟩:bj) (Cf vd (by omega) (by omega)));have e2:=ab hA b2;have e6:=ab hA b8;refine aH f0 (.inl (by simp only[fresh,cj,b2,b8,dy,ev,and_self])) ?_;refine rz hA 2 ?_;refine rt (gt ?_);show _=PV.aw [.agg [.ow 1 d1,.ow 2 d5],.bool true];simp only[b2,b8,b9,b0,b4,wr4];rfl
def sN (A:ax)(n:Int):bF:=if dm n 5 11=true then DJ A n else ⟨⟨[],[]⟩,0,[],0,0,0,0⟩
theorem Ch {A:ax}{n:Int}(h:dm n 5 11=true):sN A n=DJ A n:=if_pos h
theorem LW {A:ax}{n:Int}(h:dm n 5 11=false):sN A n=⟨⟨[],[]⟩,0,[],0,0,0,0⟩:=if_neg (by rw[h];decide)
theorem FF {n:Int}(h:dm n 5 11=true):5<=n/\n<=11:=by simpa [dm] using h
theorem Rr (A:ax){n:Int}(h5:5<=n)(Bm:n<=11):eM ⟨pb A n,[]⟩:=Cc (xH h5 Bm)
theorem Nx (A:ax){n:Int}(h5:5<=n):16<=(pb A n).length:=by
 show 16<=(fl (gN n) _).length;have:=DM h5;rw[mv];omega
theorem Rs (A:ax)(hA:A=aj)(k n:Int)(hk:k=8+n * 8)(h5:5<=n)(Bm:n<=11):al 60 [.ii k] (.aw [.agg (jo ⟨gN n,[]⟩),.bool true]):=by
 subst hk;exact G4 A hA (8+n * 8) (by omega) (by omega)
theorem Cv (A:ax)(hA:A=aj)(n:Int):al 29 [.ii n] (.aw [.agg (rV (sN A n)),.bool (dm n 5 11)]):=by
 refine aY Tryz.func29 ?_;refine gx hA 2 ?_;refine gs (gs (gr (rn hA 1 ?_)));obtain⟨f8,e9,aJ⟩:=ib (ig A hA n 5 11);refine aH aJ (.inr rfl) ?_;refine rz hA 1 ?_;refine gc (λc3=>?_) (λc3=>?_)
 ·
  have c4:f8=false:=ck hA c3;refine gs (gB (rn hA 3 ?_));refine bY (tw:=[.cell 2 0 9001 1,.cell 2 1 9011 2,.cell 2 3 9031 4]) (by cbv) ?_;refine rt (gt ?_);show _=PV.aw [.agg [.ow 1 ([]),.ow 2 ([]),.ii 0,.ow 4 ([]),.ii 0,.ii 0,.ii 0,.ii 0],.bool false];have hin:dm n 5 11=false:=by rw[<- e9];assumption
  simp only[LW hin,hin];rfl
 have c5:f8=true:=cm hA c3;refine gk (gs ?_);have hin:dm n 5 11=true:=by rw[<- e9];assumption
 obtain⟨n5,jq⟩:=FF hin;have wl:A.num .add .i64 8 (A.num .mul .i64 n 8)=8+n * 8:=by rw[num_mul hA (by unfold i64;omega),au hA (by omega) (by omega)]
 refine gr (rn hA 3 ?_);obtain⟨e1,e5,c2,d3,fq⟩:=XY (Rs A hA (A.num .add .i64 8 (A.num .mul .i64 n 8)) n wl n5 jq);have f3:=ab hA c2;have g2:=ab hA d3;refine aH fq (.inr rfl) ?_;refine rz hA 6 ?_;refine gs (gr (rn hA 2 ?_));refine Kc [.Ef 24 3 9024 4] rfl rfl (by cbv) (by cbv) ?_;obtain⟨b6,c0,d7,a4,a2,c1,a0,a3,a7,b3,a6,a5,a8,a1,kA⟩:=XZ [.agg [.sl 1 (ar e1),.sl 2 (ar e5),.ii n,.sl 4 (ar []),.ii 1,.ii 1,.ii 0,.ii 1],.ii 0] (aaN ah (pb A n)) (aaN aU ([])) (aaN bW ([⟨0,1,10,[]⟩]:List bu)) 2 1 0 1 n true (by subst c2 d3;simp only[bS,cE];exact Hj A hA (⟨⟨gN n,[]⟩,n,[],1,1,0,1⟩:bF) n n5 jq rfl);have e7:=ab hA a3;have e8:=ab hA a7;have g3:=ab hA b3;refine aH kA (.inl (by simp only[fresh,cj,a3,a7,b3,a6,a5,a8,a1,nA,dy,ev,and_self])) ?_;refine rz hA 6 ?_;refine gs ?_;refine cR [0,1,2,3,4,5,6,9,7,8,10] (by cbv) ?_;refine cH hA 3 ?_;obtain⟨a9,b9,d5,c9,f5⟩:∃(a9:Int) (b9:RR),a9=(c1+1)/\b9=aaN pD (aaN wV ([⟨0,1,10,[]⟩]:List bu))/\al 63 [.agg [.sl 1 (ar b6),.sl 2 (ar c0),.ii n,.sl 4 (ar d7),.ii a4,.ii a2,.ii c1,.ii a0]] (.agg [.ii a9,.ii a4,.ii a2,.ii a0,.ow 2 b9]):=⟨_,_,rfl,rfl,by subst a3 a7 b3;simp only[im,bS,cE];exact He A hA (⟨⟨pb A n,[]⟩,n,([⟨0,1,10,[]⟩]:List bu),a4,a2,c1,a0⟩:bF) (by subst a1 a8 a5 a6;show(0:Int)<=0;decide) (by subst a1 a8 a5 a6;show(0:Int)<=1000000000;decide) (by show([⟨0,1,10,[]⟩]:List bu).length<=1048576;decide)⟩;have g4:=ab hA c9;refine nc f5 (.inl (by simp only[fresh,cj,d5,c9,Ny,and_self])) ?_;obtain⟨d8,e2,b2,b5,g7⟩:=uZ [.agg [.sl 1 (ar b6),.sl 2 (ar c0)],.agg [.ii a9,.ii a4,.ii a2,.ii a0,.sl 2 (ar b9)]] (aaN ah (fl (pb A n) (wr (pb A n) 4 0 (xG A)))) (aaN aU ([])) true (by subst a3 a7 c9;simp only[Nz,bS,cE];exact Ct A hA (⟨pb A n,[]⟩:bj) (⟨a9,a4,a2,a0,aaN wV ([⟨0,1,10,[]⟩]:List bu)⟩:df) (by subst d5 a1 a8 a5 a6;rfl) (Rr A n5 jq) rfl (Nx A n5));have f1:=ab hA b2;have g0:=ab hA b5;refine nc g7 (.inl (by simp only[fresh,cj,b2,b5,dy,ev,and_self])) ?_;refine cH hA 6 ?_;refine cS (by cbv) ?_;refine gs (gs (gr (rn hA 3 ?_)));refine ag 38 rfl (λdF=>?_) (λdF=>?_)
 ·
  exact ay dF (by subst hA;rfl)
 refine rz hA 3 ?_;refine gc (λeL=>?_) (λeL=>?_)
 ·
  exact ay eL (by subst hA;rfl)
 refine gk (gx hA 3 ?_);refine gx hA 2 ?_;refine gx hA 3 ?_;refine rt (gt ?_);show _=PV.aw [.agg [.ow 1 d8,.ow 2 e2,.ii n,.ow 4 d7,.ii a4,.ii a2,.ii 1,.ii a0],.bool true];simp only[Ch hin,hin,b2,b5,b3,a6,a5,a8,a1];rfl
theorem Rt (A:ax)(hA:A=aj)(k n:Int)(hk:k=8+n * 8)(h5:5<=n)(Bm:n<=11):al 47 [.ii k] (.aw [.agg (jo ⟨gN n,[]⟩),.bool true]):=by
 subst hk;exact G5 A hA (8+n * 8) (by omega) (by omega)
theorem Cw (A:ax)(hA:A=aj)(n:Int):al 24 [.ii n] (.aw [.agg (rV (sN A n)),.bool (dm n 5 11)]):=by
 refine aY Tryz.func24 ?_;refine gx hA 2 ?_;refine gs (gs (gr (rn hA 1 ?_)));obtain⟨f9,f0,aJ⟩:=ib (et A hA n 5 11);refine aH aJ (.inr rfl) ?_;refine rz hA 1 ?_;refine gc (λc3=>?_) (λc3=>?_)
 ·
  have c4:f9=false:=ck hA c3;refine gs (gB (rn hA 3 ?_));refine bY (tw:=[.cell 2 0 9001 1,.cell 2 1 9011 2,.cell 2 3 9031 4]) (by cbv) ?_;refine rt (gt ?_);show _=PV.aw [.agg [.ow 1 ([]),.ow 2 ([]),.ii 0,.ow 4 ([]),.ii 0,.ii 0,.ii 0,.ii 0],.bool false];have hin:dm n 5 11=false:=by rw[<- f0];assumption
  simp only[LW hin,hin];rfl
 have c5:f9=true:=cm hA c3;refine gk (gs ?_);have hin:dm n 5 11=true:=by rw[<- f0];assumption
 obtain⟨n5,jq⟩:=FF hin;have wl:A.num .add .i64 8 (A.num .mul .i64 n 8)=8+n * 8:=by rw[num_mul hA (by unfold i64;omega),au hA (by omega) (by omega)]
 refine gr (rn hA 3 ?_);obtain⟨e0,e4,c7,d1,fq⟩:=XY (Rt A hA (A.num .add .i64 8 (A.num .mul .i64 n 8)) n wl n5 jq);have f4:=ab hA c7;have g1:=ab hA d1;refine aH fq (.inr rfl) ?_;refine rz hA 6 ?_;refine gx hA 5 ?_;refine gs (gs ?_);refine B2 [.cell 6 3 9106 4] (by cbv) ?_;obtain⟨w8,w9,C9,NA,zI,f6,f5⟩:∃(w8 w9 C9:RR),w8=aaN ah (pb A n)/\w9=aaN aU ([]:List br)/\C9=aaN bW ([⟨0,1,10,[]⟩]:List bu)/\rY 48 [.ow 1 e0,.ow 2 e4,.ii n,.ow 4 ([]),.ii 1,.ii 1,.ii 0,.ii 1] [.ii 0] [.ow 1 w8,.ow 2 w9,.ii n,.ow 4 C9,.ii 2,.ii 1,.ii 0,.ii 1] (.bool true):=⟨_,_,_,rfl,rfl,rfl,by subst c7 d1;exact Rq A hA n n5 jq⟩;refine nY 9200000 rfl (by cbv) rfl (by cbv) rfl (by cbv) f5 rfl rfl (by cbv) ?_;have lw8:=ab hA NA;have lw9:=ab hA zI;have g9:=ab hA f6;refine rz hA 1 ?_;refine gc (λcZ=>?_) (λcZ=>?_)
 ·
  exact ay cZ (by subst hA;rfl)
 refine gk (gs ?_);refine cR [0,1,2,3,4,5,6,9,7,8,10] (by cbv) ?_;refine cH hA 3 ?_;obtain⟨d6,d0,d2,c6,e6,d4,b4,b7,b1,c8,g8⟩:=X0 [.agg [.sl 1 (ar w8),.sl 2 (ar w9),.ii n,.sl 4 (ar C9),.ii 2,.ii 1,.ii 0,.ii 1]] (0+1) 2 1 1 (aaN pD (aaN wV ([⟨0,1,10,[]⟩]:List bu))) (by subst NA zI f6;simp only[im,bS,cE];exact Hf A hA (⟨⟨(pb A n),([]:List br)⟩,n,([⟨0,1,10,[]⟩]:List bu),2,1,0,1⟩:bF) (by show(0:Int)<=0;decide) (by show(0:Int)<=1000000000;decide) (by show([⟨0,1,10,[]⟩]:List bu).length<=1048576;decide));have g5:=ab hA c8;refine nc g8 (.inl (by simp only[fresh,cj,d4,b4,b7,b1,c8,Ny,and_self])) ?_;obtain⟨d9,e3,b0,b8,g6⟩:=uZ [.agg [.sl 1 (ar w8),.sl 2 (ar w9)],.agg [.ii d6,.ii d0,.ii d2,.ii c6,.sl 2 (ar e6)]] (aaN ah (fl (pb A n) (wr (pb A n) 4 0 (xG A)))) (aaN aU ([])) true (by subst NA zI c8;simp only[Nz,bS,cE];exact Cu A hA (⟨(pb A n),([]:List br)⟩:bj) (⟨d6,d0,d2,c6,aaN wV ([⟨0,1,10,[]⟩]:List bu)⟩:df) (by subst b1 b7 b4 d4;rfl) (Rr A n5 jq) rfl (Nx A n5));have f2:=ab hA b0;have f7:=ab hA b8;refine nc g6 (.inl (by simp only[fresh,cj,b0,b8,dy,ev,and_self])) ?_;refine cH hA 6 ?_;refine cS (by cbv) ?_;refine gs (gx hA 2 ?_);refine gc (λgG=>?_) (λgG=>?_)
 ·
  exact ay gG (by subst hA;rfl)
 refine gk (gx hA 3 ?_);refine gx hA 2 ?_;refine gx hA 3 ?_;refine rt (gt ?_);show _=PV.aw [.agg [.ow 1 d9,.ow 2 e3,.ii n,.ow 4 C9,.ii 2,.ii 1,.ii 1,.ii 1],.bool true];simp only[Ch hin,hin,b0,b8,f6,b4,b7,b1];rfl
theorem FT (A:ax)(hA:A=aj)(n:Int):al 15 [.ii n] (.aw [.agg (kP ⟨sN A n,[]⟩),.bool (dm n 5 11)]):=by
 refine aY Tryz.func15 ?_;refine gx hA 2 ?_;refine gs (gr (rn hA 1 ?_));obtain⟨a2,a4,b4,b5,a9,b0,b2,a6,b9,a0,a1,b3,a3,a8,a7,b1,a5,b8,aJ⟩:=X4 (Cv A hA n);have b6:=ab hA a0;have b7:=ab hA a1;have c0:=ab hA a3;refine aH aJ (.inr rfl) ?_;refine rz hA 6 ?_;refine gs (gB (rn hA 5 ?_));refine bY (tw:=[.cell 2 8 9081 1]) (by cbv) ?_;refine rt (gt ?_);show _=PV.aw [.agg [.ow 1 a2,.ow 2 a4,.ii b4,.ow 4 b5,.ii a9,.ii b0,.ii b2,.ii a6,.ow 1 ([])],.bool b9];simp only[a0,a1,a3,b3,a8,a7,b1,a5,b8];rfl
theorem FU (A:ax)(hA:A=aj)(n:Int):al 13 [.ii n] (.aw [.agg (kP ⟨sN A n,[]⟩),.bool (dm n 5 11)]):=by
 refine aY Tryz.func13 ?_;refine gx hA 2 ?_;refine gs (gr (rn hA 1 ?_));obtain⟨a2,a4,b4,b5,a9,b0,b2,a6,b9,a0,a1,b3,a3,a8,a7,b1,a5,b8,aJ⟩:=X4 (Cw A hA n);have b6:=ab hA a0;have b7:=ab hA a1;have c0:=ab hA a3;refine aH aJ (.inr rfl) ?_;refine rz hA 6 ?_;refine gs (gx hA 2 ?_);refine gc (λc3=>?_) (λc3=>?_)
 ·
  have c4:b9=false:=ck hA c3;refine gs (gB (rn hA 3 ?_));refine bY (tw:=[.cell 2 0 9001 1,.cell 2 1 9011 2,.cell 2 3 9031 4,.cell 2 8 9081 1]) (by cbv) ?_;refine rt (gt ?_);show _=PV.aw [.agg [.ow 1 ([]),.ow 2 ([]),.ii 0,.ow 4 ([]),.ii 0,.ii 0,.ii 0,.ii 0,.ow 1 ([])],.bool false];have hin:dm n 5 11=false:=by rw[<- b8];assumption
  simp only[LW hin,hin];rfl
 have c5:b9=true:=cm hA c3;refine gk (gs (gB (rn hA 4 ?_)));refine bY (tw:=[.cell 2 8 9081 1]) (by cbv) ?_;refine rt (gt ?_);show _=PV.aw [.agg [.ow 1 a2,.ow 2 a4,.ii b4,.ow 4 b5,.ii a9,.ii b0,.ii b2,.ii a6,.ow 1 ([])],.bool true];have hin:dm n 5 11=true:=by rw[<- b8];assumption
 simp only[a0,a1,a3,b3,a8,a7,b1,a5,hin];rfl
def wC (L:List aT)(u:ByteArray):List aT:=if hasB L u cG=true then L else L++[dW ((L.length:Int)+1) u]
theorem IX (L:List aT)(u:ByteArray):(wC L u).length<=L.length+1:=by
 unfold wC;split
 ·omega
 rw[aaY];exact abr _
theorem ND {A:ax}(hA:A=aj){x:aK}{n:Int}{L:List aT}{u:ByteArray}(h:iQ A x n L)(hl:L.length<=2)(hc:tj L u=0):iQ A (jz A x L u) n (wC L u)/\∀ us,lp A x.Log L (u::us)=lp A (jz A x L u).Log (wC L u) us:=by
 unfold tj at hc
 by_cases hh:hasB L u cG=true
 ·unfold jz wC
  rw[if_pos hh,if_pos hh];exact⟨h,λus=>by rw[lp,if_pos hh]⟩
 rw[if_neg hh] at hc;unfold jz wC;rw[if_neg hh,if_neg hh];unfold BE at hc
 by_cases hm:dN L ((L.length:Int)+1) u=true
 ·unfold mP
  rw[if_pos hm];exact⟨h.add hA hl hm,λus=>by rw[lp,if_neg hh,if_pos hm];rfl⟩
 rw[if_neg hm] at hc;simp at hc
theorem NF {A:ax}{g:bF}{L:List aT}{u:ByteArray}(hc:tj L u≠0):∀ us,lp A g L (u::us)=none:=by
 intro us;unfold tj at hc
 by_cases hh:hasB L u cG=true
 ·rw [if_pos hh] at hc;exact absurd rfl hc
 rw[if_neg hh] at hc;unfold BE at hc
 by_cases hm:dN L ((L.length:Int)+1) u=true
 ·rw [if_pos hm] at hc;exact absurd rfl hc
 rw[lp,if_neg hh,if_neg hm]
theorem y8 {us:List ByteArray}{i:Nat}{u:ByteArray}(h:us[i]? =some u):us.drop i=u::us.drop (i+1):=by
 obtain⟨hl,rfl⟩:=List.getElem?_eq_some_iff.1 h;exact List.drop_eq_getElem_cons hl
def SJ :gv:=⟨⟨⟨⟨[],[]⟩,0,[],0,0,0,0⟩,[]⟩,[]⟩
def bB (A:ax)(n:Int)(us:List ByteArray):gv:=match ox A n us with | some g=>⟨⟨g,[]⟩,[]⟩ | none=>SJ
def DH (A:ax)(n:Int)(us:List ByteArray):Bool:=(ox A n us).isSome
theorem jt {A:ax}{n:Int}{us:List ByteArray}(h:ox A n us=none):bB A n us=SJ/\DH A n us=false:=by simp[bB,DH,h]
theorem uN {A:ax}{n:Int}{us:List ByteArray}{g:bF}(h:ox A n us=some g):bB A n us=⟨⟨g,[]⟩,[]⟩/\DH A n us=true:=by simp[bB,DH,h]
theorem Ci {A:ax}{n:Int}{us:List ByteArray}(h:dm n 5 11=false\/3 < us.length):ox A n us=none:=by
 unfold ox;refine if_neg λhq=>?_;rcases h with h | h
 ·rw [h] at hq;exact absurd hq.1 (by decide)
 omega
theorem y9 {A:ax}{n:Int}{us:List ByteArray}(h:dm n 5 11=true)(h3:us.length<=3):ox A n us=lp A (DJ A n) [] us:=if_pos ⟨h,h3⟩
def aaC (p0:RR)(p1 p2 p3 p4 p5 p6 p7 p8:Int)(p9 fj fc ku:RR):St:={sl:=iB++.pt 4 0 0::.aa::.pt 6 0 0::yb++.sl 1 p0::.ii p1::.ii p2::ya,bl:=[(4,⟨.var,10,[[.zc,.zc,.ii p3,.zc,.ii p3,.ii p3,.ii p3,.ii p3,.zc,.zc]]⟩),(6,⟨.var,9,[[.own 14,.own 1014,.ii p4,.own 3014,.ii p5,.ii p6,.ii p7,.ii p8,.own 8014]]⟩),(14,⟨.arr,1,p9⟩),(1014,⟨.arr,2,fj⟩),(3014,⟨.arr,4,fc⟩),(8014,⟨.arr,1,ku⟩)]}
theorem uO (A:ax)(hA:A=aj)(n:Int)(xs:List ByteArray)(hz:∀ q∈bR xs,q<=1048576):al 7 [.ii n,.sl 1 (aaN ah xs)] (.aw [.agg (yX (bB A n xs)),.bool (DH A n xs)]):=by
 obtain⟨a5,j4,m1⟩:=nr hA ah xs;refine ak (az:=[.ii n,.sl 1 a5]) (by subst j4;rfl) ?_;have hlen:aaK xs<=1048576:=hz _ (aa2 ..);refine aY Tryz.func7 ?_;refine gx hA 2 ?_;refine gs (gr (rn hA 1 ?_));obtain⟨c2,d8,i3,i0,f4,f1,g3,d9,i8,k5,b3,d1,g2,g1,e8,f0,f7,d6,i4,j2,aJ⟩:=X5 (FT A hA n);have j7:=ab hA b3;have k4:=ab hA d1;have k9:=ab hA g1;have m0:=ab hA i4;refine aH aJ (.inr rfl) ?_;refine rz hA 6 ?_;refine gs (gs (gr (rn hA 3 ?_)));refine ag 19 rfl (λc3=>?_) (λc3=>?_)
 ·
  have c4:k5=false:=ck hA c3;refine rz hA 4 ?_;refine gc (λc5=>?_) (λc5=>?_)
  ·
   refine gs (gB (rn hA 3 ?_));refine bY (tw:=[.cell 4 0 9001 1,.cell 4 1 9011 2,.cell 4 3 9031 4,.cell 4 8 9081 1,.cell 4 9 9091 17]) (by cbv) ?_;refine rt (gt ?_);show _=PV.aw [.agg [.ow 1 ([]),.ow 2 ([]),.ii 0,.ow 4 ([]),.ii 0,.ii 0,.ii 0,.ii 0,.ow 1 ([]),.ow 17 ([])],.bool false];have E:ox A n xs=none:=Ci (by first | exact .inr (by omega) | exact .inl (by rw[<- j2];assumption));simp only[(jt E).1,(jt E).2];rfl
  exact cu c5 (by rfl)
 have c6:k5=true:=cm hA c3;refine rz hA 4 ?_;refine gc (λc7=>?_) (λc7=>?_)
 ·
  have jx:3 < (A.ao a5):=dJ hA c7;refine gs (gB (rn hA 3 ?_));refine bY (tw:=[.cell 4 0 9001 1,.cell 4 1 9011 2,.cell 4 3 9031 4,.cell 4 8 9081 1,.cell 4 9 9091 17]) (by cbv) ?_;refine rt (gt ?_);show _=PV.aw [.agg [.ow 1 ([]),.ow 2 ([]),.ii 0,.ow 4 ([]),.ii 0,.ii 0,.ii 0,.ii 0,.ow 1 ([]),.ow 17 ([])],.bool false];have E:ox A n xs=none:=Ci (by first | exact .inr (by omega) | exact .inl (by rw[<- j2];assumption));simp only[(jt E).1,(jt E).2];rfl
 have jx:(A.ao a5)<=3:=dL hA c7;refine gk (gs (gs ?_));have hin:dm n 5 11=true:=by rw[<- j2];assumption
 obtain⟨n5,jq⟩:=FF hin;have hfm:=Ch (A:=A) hin;have h3:aaK xs<=3:=by omega
 refine gy hA 3 ?_;refine af ?_;refine aF (λσ m=>∃(i:Nat) (S:List ByteArray) (C:List br) (U:List bu) (F:List Int) (L:List aT) (n1:Int) (R0 R1 R3 R8:RR) (z2 z4 z5 z6 z7:Int),σ=(aaC a5 (A.ao a5) n1 0 z2 z4 z5 z6 z7 R0 R1 R3 R8)/\(n1=(i:Int)/\i<=aaK xs/\R0=aaN ah S/\R1=aaN aU C/\R3=aaN bW U/\R8=aaN bq F/\iQ A (⟨⟨⟨S,C⟩,z2,U,z4,z5,z6,z7⟩,F⟩:aK) n L/\aaK L<=i/\lp A (DJ A n) [] xs=lp A (⟨⟨S,C⟩,z2,U,z4,z5,z6,z7⟩:bF) L (xs.drop i))/\m=aaK xs - i) _ [.up 8014,.up 3014,.up 1014,.up 14,.up 6,.up 4] [4,6,25,26,27] [4,6,14,1014,3014,8014] _ rfl (by cbv) ⟨0,(((sN A n).ba).aD),(((sN A n).ba).Cache),((sN A n).Used),([]:List Int),[],0,c2,d8,i0,i8,i3,f4,f1,g3,d9,rfl,?_,rfl⟩ (λσ m hI=>?_)
 ·
  refine⟨rfl,aaW _,by rw[b3,hfm],by rw[d1,hfm],by rw[g1,hfm],by rw[i4],?_,abr _,?_⟩
  ·rw [g2,e8,f0,f7,d6,hfm]
   exact⟨gV.new hA n5 jq,rfl⟩
  rw[g2,e8,f0,f7,d6,hfm];rfl
 obtain⟨i,S,C,U,F,L,n1,R0,R1,R3,R8,z2,z4,z5,z6,z7,rfl,⟨hn,hi,Rv,xg,Rw,Rx,hX,hLi,hE⟩,rfl⟩:=hI;refine gx hA 1 ?_;refine gs ?_;refine gc (λc8=>?_) (λc8=>?_)
 ·
  have gz:n1 < (A.ao a5):=aP hA c8;refine gk (gs (af (gs (gr ?_))));obtain⟨l6,m2,x9,C0,l1⟩:=ga xs n1 (by omega) (by omega);have l5:a5[(aaO n1)]? =some [.str x9]:=by
   exact bC ah j4 C0
  have i2:=C0;rw[hn] at i2;have i2:(xs)[i]? =some x9:=i2;have kL:aaK L<=2:=by omega
  have l4:(aaL x9:Int)<=4611686018427387904:=by
   have h:=hz (aaL x9) (aaX _ (abf.2 ⟨_,l1,by simp[oF]⟩));omega
  refine ee l6 l5 ?_;refine rz hA 2 ?_;refine gs (gr (rn hA 2 ?_));obtain⟨b6,c9,g6,g0,e9,e1,f5,d4,i6,j9,a1,a3,b9,c0,a7,a9,b1,a6,e4,j1,l3⟩:=FB [.agg [.sl 1 (ar R0),.sl 2 (ar R1),.ii z2,.sl 4 (ar R3),.ii z4,.ii z5,.ii z6,.ii z7,.sl 1 (ar R8)],.str x9] (aaN ah ((((jz A (⟨⟨⟨S,C⟩,z2,U,z4,z5,z6,z7⟩,F⟩:aK) L x9).Log).ba).aD)) (aaN aU ((((jz A (⟨⟨⟨S,C⟩,z2,U,z4,z5,z6,z7⟩,F⟩:aK) L x9).Log).ba).Cache)) (((jz A (⟨⟨⟨S,C⟩,z2,U,z4,z5,z6,z7⟩,F⟩:aK) L x9).Log).ld) (aaN bW (((jz A (⟨⟨⟨S,C⟩,z2,U,z4,z5,z6,z7⟩,F⟩:aK) L x9).Log).Used)) (((jz A (⟨⟨⟨S,C⟩,z2,U,z4,z5,z6,z7⟩,F⟩:aK) L x9).Log).dZ) (((jz A (⟨⟨⟨S,C⟩,z2,U,z4,z5,z6,z7⟩,F⟩:aK) L x9).Log).ea) (((jz A (⟨⟨⟨S,C⟩,z2,U,z4,z5,z6,z7⟩,F⟩:aK) L x9).Log).fv) (((jz A (⟨⟨⟨S,C⟩,z2,U,z4,z5,z6,z7⟩,F⟩:aK) L x9).Log).cT) (aaN bq ((jz A (⟨⟨⟨S,C⟩,z2,U,z4,z5,z6,z7⟩,F⟩:aK) L x9).cW)) (tj L x9) (by subst Rv xg Rw Rx;simp only[js,im,bS,cE];exact D8 A hA (⟨⟨⟨S,C⟩,z2,U,z4,z5,z6,z7⟩,F⟩:aK) n L hX x9 kL l4);have j6:=ab hA a1;have k2:=ab hA a3;have k8:=ab hA c0;have l8:=ab hA e4;refine aH l3 (.inl (by simp only[fresh,cj,a1,a3,b9,c0,a7,a9,b1,a6,e4,j1,kc,nA,dy,ev,and_self])) ?_;refine rz hA 6 ?_;refine gs (gx hA 2 ?_);refine gc (λcZ=>?_) (λcZ=>?_)
  ·
   have l2:j9≠0:=gp hA cZ;refine gs (gB (rn hA 3 ?_));refine bY (tw:=[.cell 4 0 9001 1,.cell 4 1 9011 2,.cell 4 3 9031 4,.cell 4 8 9081 1,.cell 4 9 9091 17]) (by cbv) ?_;refine rt (gt ?_);show _=PV.aw [.agg [.ow 1 ([]),.ow 2 ([]),.ii 0,.ow 4 ([]),.ii 0,.ii 0,.ii 0,.ii 0,.ow 1 ([]),.ow 17 ([])],.bool false];have hcc:tj L x9≠0:=by rw[<- j1];omega
   have E:ox A n xs=none:=by rw[y9 hin h3,hE,y8 i2,NF hcc]
   simp only[(jt E).1,(jt E).2];rfl
  have l2:j9=0:=gq hA cZ;refine gk (gB (rn hA 2 ?_));refine bY (tw:=[.drop 14,.lr 34 14,.drop 1014,.lr 1034 1014,.drop 3014,.lr 3034 3014,.drop 8014,.lr 8034 8014,.up 8014,.up 3014,.up 1014,.up 14,.up 10,.up 6,.up 4]) (by cbv) ?_;refine gy hA 2 ?_;refine⟨_,_,?_,by cbv,i+1,((((jz A (⟨⟨⟨S,C⟩,z2,U,z4,z5,z6,z7⟩,F⟩:aK) L x9).Log).ba).aD),((((jz A (⟨⟨⟨S,C⟩,z2,U,z4,z5,z6,z7⟩,F⟩:aK) L x9).Log).ba).Cache),(((jz A (⟨⟨⟨S,C⟩,z2,U,z4,z5,z6,z7⟩,F⟩:aK) L x9).Log).Used),((jz A (⟨⟨⟨S,C⟩,z2,U,z4,z5,z6,z7⟩,F⟩:aK) L x9).cW),(wC L x9),(A.num .add .i64 n1 1),b6,c9,g0,i6,g6,e9,e1,f5,d4,rfl,?_,rfl⟩
  ·
   omega
  have hcc:tj L x9=0:=by rw[<- j1];omega
  obtain⟨oX,nV⟩:=ND hA hX kL hcc;have hsl:=IX L x9;refine⟨by rw[au hA (by omega) (by omega)];omega,by omega,a1,a3,c0,e4,?_,by omega,?_⟩
  ·rw [b9,a7,a9,b1,a6]
   exact oX
  rw[hE,y8 i2,nV,b9,a7,a9,b1,a6]
 have gz:(A.ao a5)<=n1:=aQ hA c8;refine aI (gE ?_);refine gs (gB (rn hA 4 ?_));refine bY (tw:=[.cell 4 9 9091 17]) (by cbv) ?_;refine rt (gt ?_);show _=PV.aw [.agg [.ow 1 R0,.ow 2 R1,.ii z2,.ow 4 R3,.ii z4,.ii z5,.ii z6,.ii z7,.ow 1 R8,.ow 17 ([])],.bool true];have E:ox A n xs=some (⟨⟨S,C⟩,z2,U,z4,z5,z6,z7⟩:bF):=by rw[y9 hin h3,hE,Ng (by omega)]
 have hF:F=[]:=hX.fr;simp only[(uN E).1,(uN E).2,Rv,xg,Rw,Rx,hF];rfl
def aaD (p0:RR)(p1 p2 p3 p4 p5 p6 p7:Int)(p8 p9 fj fc:RR):St:={sl:=.aa::.sl 1 p0::.aa::.aa::.pt 4 0 0::.aa::.pt 6 0 0::.aa::.ii p1::JD,bl:=[(4,⟨.var,10,[[.zc,.zc,.ii p2,.zc,.ii p2,.ii p2,.ii p2,.ii p2,.zc,.zc]]⟩),(6,⟨.var,9,[[.own 13,.own 1013,.ii p3,.own 3013,.ii p4,.ii p5,.ii p6,.ii p7,.own 8013]]⟩),(13,⟨.arr,1,p8⟩),(1013,⟨.arr,2,p9⟩),(3013,⟨.arr,4,fj⟩),(8013,⟨.arr,1,fc⟩)]}
theorem DI (A:ax)(hA:A=aj)(n:Int)(xs:List ByteArray)(hz:∀ q∈bR xs,q<=1048576):al 5 [.ii n,.sl 1 (aaN ah xs)] (.aw [.agg (yX (bB A n xs)),.bool (DH A n xs)]):=by
 obtain⟨a5,j4,m1⟩:=nr hA ah xs;refine ak (az:=[.ii n,.sl 1 a5]) (by subst j4;rfl) ?_;have hlen:aaK xs<=1048576:=hz _ (aa2 ..);refine aY Tryz.func5 ?_;refine gx hA 2 ?_;refine gs (gr (rn hA 1 ?_));obtain⟨b8,d7,i1,g9,f3,f2,g4,e0,i9,k6,b5,d0,g5,g8,e6,e5,f8,d3,i7,j3,aJ⟩:=X5 (FU A hA n);have j8:=ab hA b5;have k3:=ab hA d0;have l0:=ab hA g8;have l9:=ab hA i7;refine aH aJ (.inr rfl) ?_;refine rz hA 6 ?_;refine gs (gs (gr (rn hA 3 ?_)));refine ag 18 rfl (λc3=>?_) (λc3=>?_)
 ·
  have c4:k6=false:=ck hA c3;refine rz hA 4 ?_;refine gc (λc5=>?_) (λc5=>?_)
  ·
   refine gs (gB (rn hA 3 ?_));refine bY (tw:=[.cell 4 0 9001 1,.cell 4 1 9011 2,.cell 4 3 9031 4,.cell 4 8 9081 1,.cell 4 9 9091 17]) (by cbv) ?_;refine rt (gt ?_);show _=PV.aw [.agg [.ow 1 ([]),.ow 2 ([]),.ii 0,.ow 4 ([]),.ii 0,.ii 0,.ii 0,.ii 0,.ow 1 ([]),.ow 17 ([])],.bool false];have E:ox A n xs=none:=Ci (by first | exact .inr (by omega) | exact .inl (by rw[<- j3];assumption));simp only[(jt E).1,(jt E).2];rfl
  exact cu c5 (by rfl)
 have c6:k6=true:=cm hA c3;refine rz hA 4 ?_;refine gc (λc7=>?_) (λc7=>?_)
 ·
  have jx:3 < (A.ao a5):=dJ hA c7;refine gs (gB (rn hA 3 ?_));refine bY (tw:=[.cell 4 0 9001 1,.cell 4 1 9011 2,.cell 4 3 9031 4,.cell 4 8 9081 1,.cell 4 9 9091 17]) (by cbv) ?_;refine rt (gt ?_);show _=PV.aw [.agg [.ow 1 ([]),.ow 2 ([]),.ii 0,.ow 4 ([]),.ii 0,.ii 0,.ii 0,.ii 0,.ow 1 ([]),.ow 17 ([])],.bool false];have E:ox A n xs=none:=Ci (by first | exact .inr (by omega) | exact .inl (by rw[<- j3];assumption));simp only[(jt E).1,(jt E).2];rfl
 have jx:(A.ao a5)<=3:=dL hA c7;refine gk (gs (gs ?_));have hin:dm n 5 11=true:=by rw[<- j3];assumption
 obtain⟨n5,jq⟩:=FF hin;have hfm:=Ch (A:=A) hin;have h3:aaK xs<=3:=by omega
 refine gy hA 1 ?_;refine af ?_;refine aF (λσ m=>∃(i:Nat) (S:List ByteArray) (C:List br) (U:List bu) (F:List Int) (L:List aT) (n1:Int) (R0 R1 R3 R8:RR) (z2 z4 z5 z6 z7:Int),σ=(aaD a5 n1 0 z2 z4 z5 z6 z7 R0 R1 R3 R8)/\(n1=(i:Int)/\i<=aaK xs/\R0=aaN ah S/\R1=aaN aU C/\R3=aaN bW U/\R8=aaN bq F/\iQ A (⟨⟨⟨S,C⟩,z2,U,z4,z5,z6,z7⟩,F⟩:aK) n L/\aaK L<=i/\lp A (DJ A n) [] xs=lp A (⟨⟨S,C⟩,z2,U,z4,z5,z6,z7⟩:bF) L (xs.drop i))/\m=aaK xs - i) _ [.up 8013,.up 3013,.up 1013,.up 13,.up 6,.up 4] [1,4,6,8] [4,6,13,1013,3013,8013] _ rfl (by cbv) ⟨0,(((sN A n).ba).aD),(((sN A n).ba).Cache),((sN A n).Used),([]:List Int),[],0,b8,d7,g9,i9,i1,f3,f2,g4,e0,rfl,?_,rfl⟩ (λσ m hI=>?_)
 ·
  refine⟨rfl,aaW _,by rw[b5,hfm],by rw[d0,hfm],by rw[g8,hfm],by rw[i7],?_,abr _,?_⟩
  ·rw [g5,e6,e5,f8,d3,hfm]
   exact⟨gV.new hA n5 jq,rfl⟩
  rw[g5,e6,e5,f8,d3,hfm];rfl
 obtain⟨i,S,C,U,F,L,n1,R0,R1,R3,R8,z2,z4,z5,z6,z7,rfl,⟨hn,hi,Rv,xg,Rw,Rx,hX,hLi,hE⟩,rfl⟩:=hI;refine gs (gx hA 4 ?_);refine gc (λc8=>?_) (λc8=>?_)
 ·
  have gz:n1 < (A.ao a5):=aP hA c8;refine gk (gs (af (gs ?_)));refine cR [0,1,2,3,4,5,6,7,10,8,9,11] (by cbv) ?_;refine cH hA 3 ?_;obtain⟨l6,m2,x9,C0,l1⟩:=ga xs n1 (by omega) (by omega);have l5:a5[(aaO n1)]? =some [.str x9]:=by
   exact bC ah j4 C0
  have i2:=C0;rw[hn] at i2;have i2:(xs)[i]? =some x9:=i2;have kL:aaK L<=2:=by omega
  have l4:(aaL x9:Int)<=4611686018427387904:=by
   have h:=hz (aaL x9) (aaX _ (abf.2 ⟨_,l1,by simp[oF]⟩));omega
  refine dc rfl rfl (jO rfl rfl rfl rfl rfl l6 rfl l5) ?_;refine cH hA 1 ?_;obtain⟨b4,d2,g7,f9,e2,e3,f6,d5,i5,k1,a0,a2,c1,b7,b0,a8,b2,a4,e7,j0,l3⟩:=FB [.agg [.sl 1 (ar R0),.sl 2 (ar R1),.ii z2,.sl 4 (ar R3),.ii z4,.ii z5,.ii z6,.ii z7,.sl 1 (ar R8)],.str x9] (aaN ah ((((jz A (⟨⟨⟨S,C⟩,z2,U,z4,z5,z6,z7⟩,F⟩:aK) L x9).Log).ba).aD)) (aaN aU ((((jz A (⟨⟨⟨S,C⟩,z2,U,z4,z5,z6,z7⟩,F⟩:aK) L x9).Log).ba).Cache)) (((jz A (⟨⟨⟨S,C⟩,z2,U,z4,z5,z6,z7⟩,F⟩:aK) L x9).Log).ld) (aaN bW (((jz A (⟨⟨⟨S,C⟩,z2,U,z4,z5,z6,z7⟩,F⟩:aK) L x9).Log).Used)) (((jz A (⟨⟨⟨S,C⟩,z2,U,z4,z5,z6,z7⟩,F⟩:aK) L x9).Log).dZ) (((jz A (⟨⟨⟨S,C⟩,z2,U,z4,z5,z6,z7⟩,F⟩:aK) L x9).Log).ea) (((jz A (⟨⟨⟨S,C⟩,z2,U,z4,z5,z6,z7⟩,F⟩:aK) L x9).Log).fv) (((jz A (⟨⟨⟨S,C⟩,z2,U,z4,z5,z6,z7⟩,F⟩:aK) L x9).Log).cT) (aaN bq ((jz A (⟨⟨⟨S,C⟩,z2,U,z4,z5,z6,z7⟩,F⟩:aK) L x9).cW)) (tj L x9) (by subst Rv xg Rw Rx;simp only[js,im,bS,cE];exact D9 A hA (⟨⟨⟨S,C⟩,z2,U,z4,z5,z6,z7⟩,F⟩:aK) n L hX x9 kL l4);have j5:=ab hA a0;have k0:=ab hA a2;have k7:=ab hA b7;have l7:=ab hA e7;refine nc l3 (.inl (by simp only[fresh,cj,a0,a2,c1,b7,b0,a8,b2,a4,e7,j0,kc,nA,dy,ev,and_self])) ?_;refine cH hA 6 ?_;refine cS (by cbv) ?_;refine gs (gx hA 2 ?_);refine gc (λcZ=>?_) (λcZ=>?_)
  ·
   have l2:k1≠0:=gp hA cZ;refine gs (gB (rn hA 3 ?_));refine bY (tw:=[.cell 4 0 9001 1,.cell 4 1 9011 2,.cell 4 3 9031 4,.cell 4 8 9081 1,.cell 4 9 9091 17]) (by cbv) ?_;refine rt (gt ?_);show _=PV.aw [.agg [.ow 1 ([]),.ow 2 ([]),.ii 0,.ow 4 ([]),.ii 0,.ii 0,.ii 0,.ii 0,.ow 1 ([]),.ow 17 ([])],.bool false];have hcc:tj L x9≠0:=by rw[<- j0];omega
   have E:ox A n xs=none:=by rw[y9 hin h3,hE,y8 i2,NF hcc]
   simp only[(jt E).1,(jt E).2];rfl
  have l2:k1=0:=gq hA cZ;refine gk (gB (rn hA 2 ?_));refine bY (tw:=[.drop 13,.lr 36 13,.drop 1013,.lr 1036 1013,.drop 3013,.lr 3036 3013,.drop 8013,.lr 8036 8013,.up 8013,.up 3013,.up 1013,.up 13,.up 9,.up 6,.up 4]) (by cbv) ?_;refine gy hA 3 ?_;refine⟨_,_,?_,by cbv,i+1,((((jz A (⟨⟨⟨S,C⟩,z2,U,z4,z5,z6,z7⟩,F⟩:aK) L x9).Log).ba).aD),((((jz A (⟨⟨⟨S,C⟩,z2,U,z4,z5,z6,z7⟩,F⟩:aK) L x9).Log).ba).Cache),(((jz A (⟨⟨⟨S,C⟩,z2,U,z4,z5,z6,z7⟩,F⟩:aK) L x9).Log).Used),((jz A (⟨⟨⟨S,C⟩,z2,U,z4,z5,z6,z7⟩,F⟩:aK) L x9).cW),(wC L x9),(A.num .add .i64 n1 1),b4,d2,f9,i5,g7,e2,e3,f6,d5,rfl,?_,rfl⟩
  ·
   omega
  have hcc:tj L x9=0:=by rw[<- j0];omega
  obtain⟨oX,nV⟩:=ND hA hX kL hcc;have hsl:=IX L x9;refine⟨by rw[au hA (by omega) (by omega)];omega,by omega,a0,a2,b7,e7,?_,by omega,?_⟩
  ·rw [c1,b0,a8,b2,a4]
   exact oX
  rw[hE,y8 i2,nV,c1,b0,a8,b2,a4]
 have gz:(A.ao a5)<=n1:=aQ hA c8;refine aI (gE ?_);refine gs (gB (rn hA 4 ?_));refine bY (tw:=[.cell 4 9 9091 17]) (by cbv) ?_;refine rt (gt ?_);show _=PV.aw [.agg [.ow 1 R0,.ow 2 R1,.ii z2,.ow 4 R3,.ii z4,.ii z5,.ii z6,.ii z7,.ow 1 R8,.ow 17 ([])],.bool true];have E:ox A n xs=some (⟨⟨S,C⟩,z2,U,z4,z5,z6,z7⟩:bF):=by rw[y9 hin h3,hE,Ng (by omega)]
 have hF:F=[]:=hX.fr;simp only[(uN E).1,(uN E).2,Rv,xg,Rw,Rx,hF];rfl
def aaE (p0:RR)(p1 p2:Int):St:={sl:=.sl 1 p0::.ii p1::dV++.ii p2::NK,bl:=[]}
theorem DG (A:ax)(hA:A=aj)(xs:List ByteArray)(n:Int)(h1:0<=n)(h2:n<=1048576)(hk:∀ k∈bR xs,(k:Int)<=9223372036854775807):al 4 [.sl 1 (aaN ah xs),.ii n] (.ii (chain n (bR xs))):=by
 obtain⟨a0,a1,a3⟩:=nr hA ah xs;refine ak (az:=[.sl 1 a0,.ii n]) (by subst a1;rfl) ?_;have hlen:(aaK xs:Int)<=9223372036854775807:=hk _ (by simp[bR]);refine aY Tryz.func4 ?_;refine gx hA 1 ?_;refine gx hA 5 ?_;refine gs (gs ?_);have w0:A.num .sub .i64 n (A.ao a0)=n - (aaK xs:Int):=by
  rw[a3];exact dE hA (by omega) (by omega)
 refine gy hA 2 ?_;refine gc (λc1=>?_) (λc1=>?_)
 ·
  have aV:(A.num .sub .i64 n (A.ao a0)) < 0:=aP hA c1;refine gx hA 1 ?_;refine rt (gt ?_);refine congrArg (PV.int .i64) ?_;rw[bR,jF,if_pos (by omega)]
 have aV:0<=(A.num .sub .i64 n (A.ao a0)):=aQ hA c1;refine gk (gs (gx hA 1 ?_));refine af ?_;refine aF (λσ m=>∃(i:Nat) (L n5:Int),σ=(aaE a0 L n5)/\(n5=(i:Int)/\i<=aaK xs/\0<=L/\L<=1048576/\L=chain (n - (aaK xs:Int)) ((xs.take i).flatMap oF))/\m=aaK xs - i) _ [] [0,1,5] [] _ rfl (by cbv) ⟨0,(A.num .sub .i64 n (A.ao a0)),0,rfl,?_,rfl⟩ (λσ m hI=>?_)
 ·
  exact⟨rfl,aaW _,by omega,by omega,w0⟩
 obtain⟨i,L,n5,rfl,⟨jY,hi,Io,hL1,hL⟩,rfl⟩:=hI;refine gs (gx hA 4 ?_);refine gc (λc2=>?_) (λc2=>?_)
 ·
  have iY:n5 < (A.ao a0):=aP hA c2;refine gk (gs (af (gs (gr (rn hA 3 ?_)))));obtain⟨a4,a7,x3,tc,a6⟩:=ga xs n5 (by omega) (by omega);have a5:a0[(aaO n5)]? =some [.str x3]:=by
   exact bC ah a1 tc
  have a2:xs[i]? =some x3:=by
   have h:=tc;rw[jY] at h;exact h
  have hkx:=fun(k:Nat) h=>hk k (aaX _ (abf.2 ⟨_,a6,h⟩));refine ee a4 a5 ?_;refine rz hA 4 ?_;refine gs ?_;have gg:((aaL x3:Nat):Int)<=9223372036854775807:=hkx _ (by simp[oF]);have w1:(A.num .sub .i64 L (A.bA x3))=L - (aaL x3:Int):=by
   rw[aS hA x3];exact dE hA (by omega) (by omega)
  refine gy hA 2 ?_;refine gc (λc4=>?_) (λc4=>?_)
  ·
   have du:(A.num .sub .i64 L (A.bA x3)) < 0:=aP hA c4;refine gx hA 1 ?_;refine rt (gt ?_);refine congrArg (PV.int .i64) ?_;rw[bR,jF,if_neg (by omega),Ox oF xs (i+1),H3 oF xs a2,List.append_assoc,HA hL Io];exact N8 w1 du
  have du:0<=(A.num .sub .i64 L (A.bA x3)):=aQ hA c4;refine gk (gy hA 3 ?_);refine⟨_,_,?_,by cbv,i+1,(A.num .sub .i64 L (A.bA x3)),(A.num .add .i64 n5 1),rfl,?_,rfl⟩
  ·
   omega
  refine⟨by rw[au hA (by omega) (by omega)];omega,by omega,by omega,by omega,?_⟩;rw[H3 oF xs a2,HA hL Io];exact(PL (l:=[]) w1 du).symm
 have iY:(A.ao a0)<=n5:=aQ hA c2;refine aI (gE ?_);refine gx hA 2 ?_;refine rt (gt ?_);refine congrArg (PV.int .i64) ?_;rw[bR,jF,if_neg (by omega),hL,List.take_of_length_le (by omega)]
def aaF (p0:RR)(p1:Int)(p2:RR):St:={sl:=.sl 1 p0::.aa::.aa::.own 7::.ii p1::BJ,bl:=[(7,⟨.arr,1,p2⟩)]}
theorem mW (A:ax)(hA:A=aj)(xs:List ByteArray)(hk:∀ k∈bR xs,k<=1048576):al 6 [.sl 1 (aaN ah xs)] (.ow 1 (aaN ah xs)):=by
 obtain⟨a0,a2,a4⟩:=nr hA ah xs;refine ak (az:=[.sl 1 a0]) (by subst a2;rfl) ?_;have hlen:aaK xs<=1048576:=hk _ (by simp[bR]);refine aY Tryz.func6 ?_;refine gx hA 1 ?_;refine gs (gr (rn hA 2 ?_));obtain⟨rm,hrm⟩:=nm (List.replicate (aaO (A.ao a0)) [.str aaM]:RR);have CL:(0:Int)<=A.ao a0:=by omega
 have hmax:A.ao a0 * 16<=140737488355328:=by omega
 refine bO rfl rfl (Qi rfl rfl rfl rfl rfl rfl CL hmax (by decide) (by decide) rfl hrm) ?_;refine rz hA 1 ?_;refine gs (gx hA 1 ?_);refine af ?_;refine aF (λσ m=>∃(i:Nat) (ro:RR) (n4:Int),σ=(aaF a0 n4 ro)/\(n4=(i:Int)/\i<=aaK xs/\ro=fill ah [.str aaM] xs i)/\m=aaK xs - i) _ [] [0,3,4] [7] _ rfl (by cbv) ⟨0,rm,0,rfl,?_,rfl⟩ (λσ m hI=>?_)
 ·
  exact⟨rfl,aaW _,by rw[hrm,Qg,a4];rfl⟩
 obtain⟨i,ro,n4,rfl,⟨C7,hi,hro⟩,rfl⟩:=hI;refine gs (gx hA 4 ?_);refine gc (λc1=>?_) (λc1=>?_)
 ·
  have aV:n4 < (A.ao a0):=aP hA c1;refine gk (gs (af (gr (rn hA 4 ?_))));obtain⟨a5,a7,x2,cX,a8⟩:=ga xs n4 (by omega) (by omega);have a6:a0[(aaO n4)]? =some [.str x2]:=by
   exact bC ah a2 cX
  refine ee a5 a6 ?_;refine rn hA 1 ?_;have hlo:n4 < (aaK ro:Int):=by
   rw[hro,Sv _ _ _ hi];omega
  refine bO rfl rfl (kO rfl rfl rfl rfl rfl rfl (by omega) hlo rfl) ?_;have a1:=cX;rw[C7] at a1;have a1:xs[i]? =some _:=a1;have hz:ro[aaO n4]? =some [.str aaM]:=by
   rw[hro,C7];exact UF _ _ _ (by omega)
  have hset:fill ah [.str aaM] xs (i+1)=ro.set (aaO n4) [.str x2]:=by
   rw[hro,C7];exact(Sw ah _ xs a1).symm
  obtain⟨ro2,a3⟩:∃ r,r=fill ah [.str aaM] xs (i+1):=⟨_,rfl⟩;rw[<- a3] at hset;refine bO rfl rfl (ik (r:=[.str aaM]) (cs:=[.str x2]) rfl rfl rfl rfl rfl ⟨_,_,rfl⟩ rfl rfl hz rfl hset) ?_;refine od ?_;refine gy hA 3 ?_;refine⟨_,_,?_,by cbv,i+1,ro2,(A.num .add .i64 n4 1),rfl,?_,rfl⟩
  ·
   omega
  exact⟨by rw[au hA (by omega) (by omega)];omega,by omega,a3⟩
 have aV:(A.ao a0)<=n4:=aQ hA c1;refine aI (gE ?_);refine gx hA 2 ?_;refine rt (gt ?_);refine congrArg (PV.ow 1) ?_;rw[hro,Su _ _ _ (by omega)]
end Go.Av

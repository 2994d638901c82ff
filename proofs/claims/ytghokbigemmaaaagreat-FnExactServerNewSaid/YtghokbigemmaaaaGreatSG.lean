/- Lemmas and walks for FnExactServerNew: what each function of the program and of the reference comes to. -/
import Derived.Test.YtghokbigemmaaaaGreatSA
import Derived.Test.YtghokbigemmaaaaGreatB1
import Derived.Test.YtghokbigemmaaaaGreatC1
import Derived.Test.YtghokbigemmaaaaGreatRp
import Derived.Test.YtghokbigemmaaaaGreatJ7
import Derived.Test.YtghokbigemmaaaaGreatJ1
open List renaming length→aaK,map→aaN,length_map→aaS,mem_append→aaV,nil_append→abv,map_append→abQ,any→acw
open ByteArray renaming empty→aaM,mk→aaP
open Int renaming toNat→aaO
open Bool renaming and_eq_true→aaR,true_and→ab5
open Nat renaming zero_le→aaW
namespace Go.Av
open Go Go.Proofs
set_option maxRecDepth 100000
set_option maxHeartbeats 4000000
set_option linter.unusedVariables false
set_option linter.unusedSimpArgs false
theorem Cx (A:ax)(hA:A=aj)(x:bF)(N:Int)(L:List aT)(h:gV A x N L)(u:ByteArray)(nv:Int)(kL:L.length<=2)(hm:dN L ((L.length:Int)+1) u=true)(hnv:nv=(L.length:Int)+1):al 214 [.agg (mT x),.agg [.ii nv,.ii 1,.ii nv,.ii 0,.ii 1,.ii 0,.str u,.str (aaP #[105,110,98,111,120]),.str aaM],.ii 2] (.aw [.agg (rV (lf A x L u)),.bool true]):=by
 obtain⟨⟨a0,a4⟩,b1,b2,a3,a2,a8,a1⟩:=x;obtain⟨d3,a6,f5⟩:=nr hA ah a0;obtain⟨d5,a9,g2⟩:=nr hA bn a4;obtain⟨f9,b3,j7⟩:=nr hA cA b2;refine ak (az:=[.agg [.sl 1 d3,.sl 2 d5,.ii b1,.sl 4 f9,.ii a3,.ii a2,.ii a8,.ii a1],.agg [.ii nv,.ii 1,.ii nv,.ii 0,.ii 1,.ii 0,.str u,.str (aaP #[105,110,98,111,120]),.str aaM],.ii 2]) (by subst a6 a9 b3;rfl) ?_;have hlog:=h;obtain⟨n5,jq,gd,l3,dk,ca,ln,sg,us,lng,lns,lsp,lnv,tx⟩:=h;have oE:eM ⟨a0,a4⟩:=dk;have ca:a4=[]:=ca;have ln:(aaK a0:Int)=8+N * 8:=ln;have sg:b1=N:=sg;have us:b2=[fB L]:=us;have lng:a3=2:=lng;have lns:a2=(aaK L:Int)+1:=lns;have lsp:a8=1:=lsp;have lnv:a1=(aaK L:Int)+1:=lnv;have uT:aaK b2=1:=by rw[us];rfl
 have lca:aaK a4=0:=by rw[ca];rfl
 have hil:=hlog.len;have hzl:=hlog.zs;have hit:bm b2=bx L:=hlog.items;have hib:aaK (bx L)=aaK L:=aaS ..;have hend:=hlog.end_;have hilx:(bm b2).length<=1048576:=hil;have vd:eM ⟨a0,[]⟩:=by rw[ca] at oE;exact oE
 have hw:=mH hm;have qR:=fV hw;have hns:fN (⟨1,nv,dB A (cn A) (cF nv u)⟩:aC)/\hC (⟨1,nv,dB A (cn A) (cF nv u)⟩:aC)=20+u.size:=mJ hA (iP hA) (by omega) (by omega) hw;have hzb:(oy A (dW ((L.length:Int)+1) u)).size=20+u.size:=Bk hA (by omega) hm;refine aY Tryz.func214 ?_;refine gx hA 4 ?_;refine gs (gr (rn hA 1 ?_));obtain⟨f2,f8,j6,c5,c9,e2,aJ⟩:=K7 (aaN ah a0) (aaN aU a4) (aaN bW b2) b1 a3 a2 a8 a1 (nM A hA (⟨⟨a0,a4⟩,b1,b2,a3,a2,a8,a1⟩:bF) hzl);have f0:=ab hA c5;have f6:=ab hA c9;have j1:=ab hA e2;refine aH aJ (.inr rfl) ?_ (hv:=by subst a6 a9 b3;rfl);refine rz hA 2 ?_;refine gs ?_;refine cR [0,1,2,3,4,5,6,7,10,8,9,11] (by cbv) ?_;refine cH hA 2 ?_;obtain⟨k4,f1,k0,i9,j9,e5,j4,e1,cL⟩:=Ui 0 1 (eg L:Int) (aaN aW (bx L)) (xV A hA (⟨⟨a0,a4⟩,b1,b2,a3,a2,a8,a1⟩:bF) N L hlog);have g7:=ab hA e1;refine CG cL (.inr rfl) ?_ (hv:=by subst a6 a9 b3;rfl);refine oe rfl rfl (Hz rfl rfl rfl rfl rfl rfl) ?_;obtain⟨m5,QY⟩:=nm (max 1 f1:Int);refine oe rfl rfl (BU rfl rfl rfl QY) ?_;obtain⟨d2,c3,c8,c2,fq⟩:=Uj 1 (dB A (cn A) (cF nv u)) nv true (Pl A hA m5 u nv (by omega) (by omega) hw (by rw[QY,e5];decide));refine CG fq (.inr rfl) ?_;refine cH hA 6 ?_;refine cS (by cbv) ?_;refine gs (gs ?_);refine cR [0,1,2,3,4,5,6,7,8,9,10,11,12,13,14,15,16,17,18,19,20,21,22,23,24] (by cbv) ?_;refine cH hA 1 ?_;have kA:=LV A hA (⟨⟨a0,a4⟩,b1,b2,a3,a2,a8,a1⟩:bF) N L hlog;refine CG kA (.inr rfl) ?_ (hv:=by subst a6 a9 b3;rfl);refine sf hA rfl (by cbv) (by cbv) (show(A.eB true)=false from by subst hA;rfl) ?_;refine cH hA 1 ?_;refine lF hA rfl (by cbv) (by cbv) ?_;refine sf hA rfl (by cbv) (by cbv) (show(A.eB true)=false from by subst hA;rfl) ?_;refine cH hA 2 ?_;refine lF hA rfl (by cbv) (by cbv) ?_;refine lF hA rfl (by cbv) (by cbv) ?_;refine sf hA rfl (by cbv) (by cbv) (show(A.cmp .eql nv 1000000000)=false from by subst hA;simp[aj];omega) ?_;refine cH hA 2 ?_;refine lF hA rfl (by cbv) (by cbv) ?_;refine sf hA rfl (by cbv) (by cbv) (show(A.cmp .lss 2 0)=false from by subst hA;rfl) ?_;refine cH hA 2 ?_;refine lF hA rfl (by cbv) (by cbv) ?_;obtain⟨d9,d6,k1⟩:=qL (aaN da (bm b2)) (rK A hA (⟨⟨a0,a4⟩,b1,b2,a3,a2,a8,a1⟩:bF) hzl hil);have l0:=ab hA d6;refine nc k1 (.inr rfl) ?_ (hv:=by subst a6 a9 b3;rfl);refine lF hA rfl (by cbv) (by cbv) ?_;refine lF hA rfl (by cbv) (by cbv) ?_;obtain⟨r12,i1⟩:=nm (d9++[[.ii nv,.ii 1,.ii nv,.ii 0,.ii 1,.ii 0,.str u,.str (aaP #[105,110,98,111,120]),.str aaM]]:RR);have i2:r12=aaN da ((bm b2)++([(⟨nv,⟨1,nv,0,1,0,u,(aaP #[105,110,98,111,120]),aaM⟩⟩:ae)])):=by rw[i1];exact cM d6 (by rfl)
 have l2:=ab hA i2;refine iF rfl rfl rfl rfl rfl rfl rfl (ij rfl rfl rfl rfl rfl rfl rfl rfl i1 rfl rfl rfl rfl (by
  show(aaK d9+aaK ([[.ii nv,.ii 1,.ii nv,.ii 0,.ii 1,.ii 0,.str u,.str (aaP #[105,110,98,111,120]),.str aaM]])) * _<=_;show(aaK d9+1) * 96<=_;rw[d6,aaS];omega) (by decide) (by decide)) ?_
 have k5:al 119 [.sl 9 (ar r12)] (.bool true):=by subst i2;simp only[kj];exact FG A hA (bm b2++[(⟨nv,⟨1,nv,0,1,0,u,(aaP #[105,110,98,111,120]),aaM⟩⟩:ae)]) (by rw[hit];have h:=tK (Bl gd (by omega) hm);rw[<- hnv] at h;unfold bx at h;rw[abQ] at h;exact h) (by rw[hit];have h:=sv (Bl gd (by omega) hm);rw[<- hnv] at h;unfold bx at h;rw[abQ] at h;exact h)
 refine CG k5 (.inl trivial) ?_;refine sf hA rfl (by cbv) (by cbv) (show(A.eB true)=false from by subst hA;rfl) ?_;refine cH hA 1 ?_;refine cS (by cbv) ?_;refine gc (λeL=>?_) (λeL=>?_)
 ·
  exact ay eL (by rfl)
 refine gk (gs (gr (rn hA 1 ?_)));obtain⟨c6,d0,e4,b7,c1,c7,k3⟩:=K7 (aaN ah a0) (aaN aU a4) (aaN bW b2) b1 a3 a2 a8 a1 (nM A hA (⟨⟨a0,a4⟩,b1,b2,a3,a2,a8,a1⟩:bF) hzl);have e6:=ab hA b7;have f4:=ab hA c1;have g9:=ab hA c7;refine aH k3 (.inr rfl) ?_ (hv:=by subst a6 a9 b3;rfl);refine rz hA 2 ?_;refine gs (gs ?_);refine cz [0,1,2,3,4,5,6] (by cbv) ?_;refine bL hA 1 ?_;obtain⟨j8,j5,c4,i4,j2,j0,e3,d8,k9⟩:=Ui 0 1 (eg L:Int) (aaN aW (bx L)) (xV A hA (⟨⟨a0,a4⟩,b1,b2,a3,a2,a8,a1⟩:bF) N L hlog);have g6:=ab hA d8;refine eQ k9 (.inr rfl) ?_ (hv:=by subst a6 a9 b3;rfl);refine R5 rfl rfl (Hz rfl rfl rfl rfl rfl rfl) ?_;refine bL hA 1 ?_;obtain⟨e0,g5,k2⟩:=yZ ((hC (⟨d2,nv,c3⟩:aC):Nat):Int) (Pn A hA (⟨d2,nv,c3⟩:aC) (by rw[c8,c2];exact hns.1));refine eQ k2 (.inr rfl) ?_;refine dz hA 2 ?_;refine gc (λsm=>?_) (λsm=>?_)
 ·
  have i6:256 < (A.num .add .i64 c4 e0):=dJ hA sm;exfalso;have hf:e0=20+(u.size:Int):=by rw[g5,c8,c2,hns.2];omega
  have he:c4=(eg L:Int):=e3;have hL:=uR gd;rw[au hA (by omega) (by omega)] at i6;omega
 have i6:(A.num .add .i64 c4 e0)<=256:=dL hA sm;refine gk (gs ?_);obtain⟨ri,hri⟩:=nm (aaN da (bx L):RR);obtain⟨eN,Ru⟩:=nm ((eg L:Int):Int);have Yh:e4=[[.ii 0,.ii 1,.ii eN,.ow 9 ri]]:=by rw[c7,us,Ru,hri];rfl
 subst Yh;have wix:A.num .sub .i64 (A.ao [[.ii 0,.ii 1,.ii eN,.ow 9 ri]]) 1=((0:Nat):Int):=by subst hA;rfl
 have lri:aaK ri=aaK L:=by rw[hri,aaS];exact hib
 refine gr (rn hA 6 ?_);refine bO rfl rfl (Dm (m:=0) rfl rfl rfl rfl rfl rfl wix rfl rfl) ?_;refine rz hA 1 ?_;refine gx hA 6 ?_;refine gs (gr (rn hA 1 ?_));obtain⟨a5,d7,k6⟩:=S0 (Pm A hA 1 c3 u nv (by omega) (by omega) hw rfl c2);refine aH k6 (.inr rfl) ?_;refine rz hA 5 ?_;refine gs ?_;have zt:ByteArray.size a5=20+u.size:=by rw[d7,hnv];exact hzb
 have zs:=aS hA a5;have hL:=uR gd;refine cR [0,1,2,3,4,5,6,7,8,9,10,11,12,13,16,14,15,17] (by cbv) ?_;refine cH hA 11 ?_;obtain⟨d1,d4,b4,b6,k7⟩:=uZ [.agg [.sl 1 (ar c6),.sl 2 (ar d0)],.ii 0,.ii eN,.str a5] (aaN ah a0) (aaN aU (wr a0 (aaO (8+0 * 8)) (aaO eN) a5)) true (by subst b7 c1;simp only[bS,cE];exact wg A hA (⟨a0,a4⟩:bj) 0 eN a5 oE ca (by decide) (by decide) (by show(16:Int)+0 * 8<=(aaK a0:Int);omega) (by omega) (by omega));have f3:=ab hA b4;have g0:=ab hA b6;refine nc k7 (.inl (by simp only[fresh,cj,b4,b6,dy,ev,and_self])) ?_;refine cH hA 6 ?_;refine cS (by cbv) ?_;refine gs (gx hA 2 ?_);refine gc (λpn=>?_) (λpn=>?_)
 ·
  exact ay pn (by subst hA;rfl)
 refine gk (gs (gr (rn hA 1 ?_)));obtain⟨a7,b0,b5,c0,k8⟩:=xT [.agg [.sl 1 (ar d1),.sl 2 (ar d4)]] (aaN ah (fl a0 (wr a0 (aaO (8+0 * 8)) (aaO eN) a5))) (aaN aU ([])) (by subst b4 b6;simp only[bS,cE];exact pO A hA (⟨a0,wr a0 (aaO (8+0 * 8)) (aaO eN) a5⟩:bj) (Cf vd (by omega) (by omega)));have f7:=ab hA b5;have g4:=ab hA c0;refine aH k8 (.inl (by simp only[fresh,cj,b5,c0,dy,ev,and_self])) ?_;refine rz hA 2 ?_;refine gs (gB (rn hA 10 ?_));refine bY (tw:=[.aa 0,.aa 1,.aa 2,.aa 3,.aa 8,.aa 9,.aa 10,.aa 15,.aa 16,.aa 17,.aa 18,.aa 19,.aa 20,.aa 21,.aa 22,.aa 23,.aa 24,.aa 25,.aa 26,.aa 27,.aa 28,.aa 29,.aa 30,.aa 31,.aa 32,.aa 33,.aa 34,.aa 35,.aa 36,.aa 37,.aa 38,.aa 39,.aa 40,.aa 41,.aa 42,.aa 43,.aa 44,.aa 45,.aa 46,.aa 47,.aa 49,.aa 51,.aa 52,.aa 53,.aa 54,.aa 56,.aa 57,.aa 58,.aa 59,.aa 60,.aa 61,.aa 62,.aa 63,.aa 64,.aa 75,.aa 76,.aa 77,.aa 78,.aa 79,.aa 80,.aa 81,.aa 82,.aa 83,.aa 84,.aa 85,.aa 86,.aa 87,.aa 88,.aa 89,.aa 90,.aa 91,.aa 92,.aa 93,.aa 94,.aa 95,.aa 96,.aa 97,.aa 98,.aa 99,.aa 100,.aa 101,.aa 102,.aa 103,.aa 104,.aa 105,.aa 106,.aa 107,.aa 108,.aa 110,.aa 111,.aa 112,.aa 113,.aa 114,.aa 115,.aa 116,.aa 117,.aa 118,.aa 119,.aa 120,.aa 121,.drop 17,.drop 104,.drop 1104,.drop 57,.drop 1057,.drop 48,.drop 9,.drop 8,.drop 20,.drop 1020,.drop 3020,.drop 3]) (by cbv) ?_;refine gs ?_;obtain⟨NB,i0⟩:=nm (ri++[[.ii nv,.ii 1,.ii nv,.ii 0,.ii 1,.ii 0,.str u,.str (aaP #[105,110,98,111,120]),.str aaM]]:RR);have i5:NB=aaN da ((bx L)++([(⟨nv,⟨1,nv,0,1,0,u,(aaP #[105,110,98,111,120]),aaM⟩⟩:ae)])):=by rw[i0];exact cM hri (by rfl)
 have l1:=ab hA i5;refine RY [0,1,2,3,4,5,6,7,8,9,10] (by cbv) rfl rfl ({sl:=iB++.pt 4 0 0::.aa::.pt 6 0 0::.bool false::dV++.pt 11 0 0::.aa::.aa::.pt 3057 0 0::tZ++.pt 3057 0 0::.pt 3057 0 0::.pt 3057 0 0::.pt 3057 0 3::.aa::.agg [.ii nv,.ii 1,.ii nv,.ii 0,.ii 1,.ii 0,.str u,.str (aaP #[105,110,98,111,120]),.str aaM]::.aa::.aa::.pt 3057 0 0::.pt 3057 0 3::ya,bl:=[(4,⟨.var,9,[[.ii nv,.ii 1,.ii nv,.ii 0,.ii 1,.ii 0,.str u,.str (aaP #[105,110,98,111,120]),.str aaM]]⟩),(6,⟨.var,8,[[.zc,.zc,.ii 0,.zc,.ii 0,.ii 0,.ii 0,.ii 0]]⟩),(11,⟨.var,8,[[.own 111,.own 1111,.ii b1,.own 3057,.ii a3,.ii a2,.ii a8,.ii a1]]⟩),(111,⟨.arr,1,a7⟩),(1111,⟨.arr,2,b0⟩),(3057,⟨.arr,4,[[.ii 0,.ii 1,.ii (A.num .add .i64 eN (A.bA a5)),.ow 9 NB]]⟩)]}:St) (λdR dK NC dhF=>?_) ?_
 ·
  have e7:∀(vN:Value),∀(dn:Nat),lx [true,true,true,true,true,true,true,true,true,true,true]=dn->mY T ⟨Real Tryz.prog,fo Tryz.prog,jh Tryz.prog,jA Tryz.prog⟩ dR dK dn [true,true,true,true,true,true,true,true,true,true,true] ({sl:=iB++.pt 4 0 0::.aa::.pt 6 0 0::.bool false::dV++.pt 11 0 0::.aa::.aa::.pt 3057 0 0::tZ++.pt 3057 0 0::.pt 3057 0 0::.pt 3057 0 0::.pt 3057 0 3::.aa::.agg [.ii nv,.ii 1,.ii nv,.ii 0,.ii 1,.ii 0,.str u,.str (aaP #[105,110,98,111,120]),.str aaM]::.aa::.aa::.pt 3057 0 0::.pt 3057 0 3::ya,bl:=[(4,⟨.var,9,[[.ii nv,.ii 1,.ii nv,.ii 0,.ii 1,.ii 0,.str u,.str (aaP #[105,110,98,111,120]),.str aaM]]⟩),(6,⟨.var,8,[[.zc,.zc,.ii 0,.zc,.ii 0,.ii 0,.ii 0,.ii 0]]⟩),(11,⟨.var,8,[[.own 111,.own 1111,.ii b1,.own 3057,.ii a3,.ii a2,.ii a8,.ii a1]]⟩),(111,⟨.arr,1,a7⟩),(1111,⟨.arr,2,b0⟩),(3057,⟨.arr,4,[[.ii 0,.ii 1,.ii (A.num .add .i64 eN (A.bA a5)),.ow 9 NB]]⟩)]}:St):=by
   intro vN;intro dn
   induction dn with
   | zero=>
    intro dhn;exact RZ dhF
   | succ dn ih=>
    intro dhn;subst NC;refine rv (is:=[0,1,2,3,4,5,6,7,8,9,10]) rfl ?_;refine an ?_;refine an ?_;refine an ?_;refine an ?_;refine an ?_;refine an ?_;refine an ?_;refine an ?_;refine an ?_;refine an ?_;refine an ?_;exact trivial
  have g3:∀(vN:Value),∀(dn:Nat) {jg FH FI:Bool} {nn Uo Up:PV},(jg=true->nn=.pt 3057 0 0)->(FH=true->Uo=.pt 3057 0 0)->(FI=true->Up=.pt 3057 0 3)->(FH=true->jg=true)->(FI=true->FH=true)->(FI=true->jg=true)->lx [jg,true,true,true,true,true,true,true,FH,FI,false]=dn->mY T ⟨Real Tryz.prog,fo Tryz.prog,jh Tryz.prog,jA Tryz.prog⟩ dR dK dn [jg,true,true,true,true,true,true,true,FH,FI,false] ({sl:=iB++.pt 4 0 0::.aa::.pt 6 0 0::.bool false::dV++.pt 11 0 0::.aa::.aa::.pt 3057 0 0::tZ++nn::.pt 3057 0 0::.pt 3057 0 0::.pt 3057 0 3::.aa::.agg [.ii nv,.ii 1,.ii nv,.ii 0,.ii 1,.ii 0,.str u,.str (aaP #[105,110,98,111,120]),.str aaM]::.aa::.own 126::Uo::Up::ya,bl:=[(4,⟨.var,9,[[.ii nv,.ii 1,.ii nv,.ii 0,.ii 1,.ii 0,.str u,.str (aaP #[105,110,98,111,120]),.str aaM]]⟩),(6,⟨.var,8,[[.zc,.zc,.ii 0,.zc,.ii 0,.ii 0,.ii 0,.ii 0]]⟩),(11,⟨.var,8,[[.own 111,.own 1111,.ii b1,.own 3057,.ii a3,.ii a2,.ii a8,.ii a1]]⟩),(111,⟨.arr,1,a7⟩),(126,⟨.arr,9,NB⟩),(1111,⟨.arr,2,b0⟩),(3057,⟨.arr,4,[[.ii 0,.ii 1,.ii (A.num .add .i64 eN (A.bA a5)),.raw vN]]⟩)]}:St):=by
   intro vN;intro dn
   induction dn with
   | zero=>
    intro jg FH FI nn Uo Up np Uq Ur e9 e8 j3 dhn;exact absurd (show false=true from mB _ dhn 10 (by show 10 < 11;decide)) (by decide)
   | succ dn ih=>
    intro jg FH FI nn Uo Up np Uq Ur e9 e8 j3 dhn;subst NC;refine rv (is:=[0,1,2,3,4,5,6,7,8,9,10]) rfl ?_;refine aq (λh0 h1=>?_) ?_
    ·
     cases (show jg=false from h0);refine rn hA 1 ?_;refine sP ?_;exact ih rf Uq Ur rf e8 rf (cd h0 dhn)
    refine an ?_;refine an ?_;refine an ?_;refine an ?_;refine an ?_;refine an ?_;refine an ?_;refine aq (λh0 h1=>?_) ?_
    ·
     cases (show FH=false from h0);obtain rfl:jg=true:=h1.1;cases np rfl;refine rn hA 1 ?_;refine sP ?_;exact ih rf rf Ur rf rf rf (cd h0 dhn)
    refine aq (λh0 h1=>?_) ?_
    ·
     cases (show FI=false from h0);obtain rfl:FH=true:=h1.1;cases Uq rfl;cases e9 rfl;cases np rfl;refine rn hA 1 ?_;refine sP ?_;exact ih rf rf rf rf rf rf (cd h0 dhn)
    refine aq (λh0 h1=>?_) ?_
    ·
     obtain rfl:FI=true:=h1.1;cases Ur rfl;cases e8 rfl;cases Uq rfl;cases e9 rfl;cases np rfl;refine rn hA 1 ?_;refine sP ?_;exact e7 vN dn (cd h0 dhn)
    exact trivial
  have g1:∀(vN:Value),∀(dn:Nat) {jg:Bool} {nn:PV},(jg=true->nn=.pt 3057 0 0)->lx [jg,true,true,true,true,true,true,false,false,false,false]=dn->mY T ⟨Real Tryz.prog,fo Tryz.prog,jh Tryz.prog,jA Tryz.prog⟩ dR dK dn [jg,true,true,true,true,true,true,false,false,false,false] ({sl:=iB++.pt 4 0 0::.aa::.pt 6 0 0::.bool false::dV++.pt 11 0 0::.aa::.aa::.pt 3057 0 0::tZ++nn::.pt 3057 0 0::.pt 3057 0 0::.pt 3057 0 3::.own 126::.agg [.ii nv,.ii 1,.ii nv,.ii 0,.ii 1,.ii 0,.str u,.str (aaP #[105,110,98,111,120]),.str aaM]::.own 128::yc,bl:=[(4,⟨.var,9,[[.ii nv,.ii 1,.ii nv,.ii 0,.ii 1,.ii 0,.str u,.str (aaP #[105,110,98,111,120]),.str aaM]]⟩),(6,⟨.var,8,[[.zc,.zc,.ii 0,.zc,.ii 0,.ii 0,.ii 0,.ii 0]]⟩),(11,⟨.var,8,[[.own 111,.own 1111,.ii b1,.own 3057,.ii a3,.ii a2,.ii a8,.ii a1]]⟩),(111,⟨.arr,1,a7⟩),(126,⟨.arr,9,ri⟩),(128,⟨.lit,9,[[.ii nv,.ii 1,.ii nv,.ii 0,.ii 1,.ii 0,.str u,.str (aaP #[105,110,98,111,120]),.str aaM]]⟩),(1111,⟨.arr,2,b0⟩),(3057,⟨.arr,4,[[.ii 0,.ii 1,.ii (A.num .add .i64 eN (A.bA a5)),.raw vN]]⟩)],hd:=[(126,vN)]}:St):=by
   intro vN;intro dn
   induction dn with
   | zero=>
    intro jg nn np dhn;exact absurd (show false=true from mB _ dhn 7 (by show 7 < 11;decide)) (by decide)
   | succ dn ih=>
    intro jg nn np dhn;subst NC;refine rv (is:=[0,1,2,3,4,5,6,7,8,9,10]) rfl ?_;refine aq (λh0 h1=>?_) ?_
    ·
     cases (show jg=false from h0);refine rn hA 1 ?_;refine sP ?_;exact ih rf (cd h0 dhn)
    refine an ?_;refine an ?_;refine an ?_;refine an ?_;refine an ?_;refine an ?_;refine aq (λh0 h1=>?_) ?_
    ·
     refine bO rfl rfl (ij rfl rfl rfl rfl rfl rfl rfl rfl i0 rfl rfl rfl rfl (by
      show(aaK ri+aaK ([[.ii nv,.ii 1,.ii nv,.ii 0,.ii 1,.ii 0,.str u,.str (aaP #[105,110,98,111,120]),.str aaM]])) * _<=_;show(aaK ri+1) * 96<=_;omega) (by decide) (by decide)) ?_
     exact ux (uj [] (by rfl) rfl (@g3 vN dn jg false false ((kill 126 (kill 128 nn))) (.aa) (.aa) (λh=>by rw[np h];rfl) nf nf nf nf nf (cd h0 dhn)))
    refine gX rfl rfl (λ_ h1=>absurd (show false=true from h1.2.2.2.2.2.2.2.2.1) (by decide)) ?_;refine gX rfl rfl (λ_ h1=>absurd (show false=true from h1.1) (by decide)) ?_;refine gX rfl rfl (λ_ h1=>absurd (show false=true from h1.1) (by decide)) ?_;exact trivial
  have H_4:∀(vN:Value),∀(dn:Nat) {jg ve:Bool} {nn FJ:PV},(jg=true->nn=.pt 3057 0 0)->(ve=true->FJ=.agg [.ii nv,.ii 1,.ii nv,.ii 0,.ii 1,.ii 0,.str u,.str (aaP #[105,110,98,111,120]),.str aaM])->lx [jg,true,true,true,true,ve,false,false,false,false,false]=dn->mY T ⟨Real Tryz.prog,fo Tryz.prog,jh Tryz.prog,jA Tryz.prog⟩ dR dK dn [jg,true,true,true,true,ve,false,false,false,false,false] ({sl:=iB++.pt 4 0 0::.aa::.pt 6 0 0::.bool false::dV++.pt 11 0 0::.aa::.aa::.pt 3057 0 0::tZ++nn::.pt 3057 0 0::.pt 3057 0 0::.pt 3057 0 3::.own 126::FJ::rP,bl:=[(4,⟨.var,9,[[.ii nv,.ii 1,.ii nv,.ii 0,.ii 1,.ii 0,.str u,.str (aaP #[105,110,98,111,120]),.str aaM]]⟩),(6,⟨.var,8,[[.zc,.zc,.ii 0,.zc,.ii 0,.ii 0,.ii 0,.ii 0]]⟩),(11,⟨.var,8,[[.own 111,.own 1111,.ii b1,.own 3057,.ii a3,.ii a2,.ii a8,.ii a1]]⟩),(111,⟨.arr,1,a7⟩),(126,⟨.arr,9,ri⟩),(1111,⟨.arr,2,b0⟩),(3057,⟨.arr,4,[[.ii 0,.ii 1,.ii (A.num .add .i64 eN (A.bA a5)),.raw vN]]⟩)],hd:=[(126,vN)]}:St):=by
   intro vN;intro dn
   induction dn with
   | zero=>
    intro jg ve nn FJ np BC dhn;exact absurd (show false=true from mB _ dhn 6 (by show 6 < 11;decide)) (by decide)
   | succ dn ih=>
    intro jg ve nn FJ np BC dhn;subst NC;refine rv (is:=[0,1,2,3,4,5,6,7,8,9,10]) rfl ?_;refine aq (λh0 h1=>?_) ?_
    ·
     cases (show jg=false from h0);refine rn hA 1 ?_;refine sP ?_;exact ih rf BC (cd h0 dhn)
    refine an ?_;refine an ?_;refine an ?_;refine an ?_;refine aq (λh0 h1=>?_) ?_
    ·
     cases (show ve=false from h0);refine rn hA 1 ?_;refine sP ?_;exact ih np rf (cd h0 dhn)
    refine aq (λh0 h1=>?_) ?_
    ·
     obtain rfl:ve=true:=h1.1;cases BC rfl;refine rn hA 1 ?_;refine ux (uj [.up 3057,.up 1111,.up 128,.up 126,.up 111,.up 11,.up 6,.up 4] (by cbv) rfl ?_);exact g1 vN dn np (cd h0 dhn)
    refine gX rfl rfl (λ_ h1=>absurd (show false=true from h1.2.1) (by decide)) ?_;refine gX rfl rfl (λ_ h1=>absurd (show false=true from h1.2.2.2.2.2.2.2.1) (by decide)) ?_;refine gX rfl rfl (λ_ h1=>absurd (show false=true from h1.1) (by decide)) ?_;refine gX rfl rfl (λ_ h1=>absurd (show false=true from h1.1) (by decide)) ?_;exact trivial
  have H_6:∀(dn:Nat) {jg sA rb sB:Bool} {nn FK FL FM:PV},(jg=true->nn=.pt 3057 0 0)->(sA=true->FK=.pt 3057 0 0)->(rb=true->FL=.pt 3057 0 0)->(sB=true->FM=.pt 3057 0 3)->(rb=true->sA=true)->(sB=true->rb=true)->lx [jg,sA,rb,sB,false,true,true,false,false,false,false]=dn->mY T ⟨Real Tryz.prog,fo Tryz.prog,jh Tryz.prog,jA Tryz.prog⟩ dR dK dn [jg,sA,rb,sB,false,true,true,false,false,false,false] ({sl:=iB++.pt 4 0 0::.aa::.pt 6 0 0::.bool false::dV++.pt 11 0 0::.aa::.aa::.pt 3057 0 0::tZ++nn::FK::FL::FM::.aa::.agg [.ii nv,.ii 1,.ii nv,.ii 0,.ii 1,.ii 0,.str u,.str (aaP #[105,110,98,111,120]),.str aaM]::.own 128::yc,bl:=[(4,⟨.var,9,[[.ii nv,.ii 1,.ii nv,.ii 0,.ii 1,.ii 0,.str u,.str (aaP #[105,110,98,111,120]),.str aaM]]⟩),(6,⟨.var,8,[[.zc,.zc,.ii 0,.zc,.ii 0,.ii 0,.ii 0,.ii 0]]⟩),(11,⟨.var,8,[[.own 111,.own 1111,.ii b1,.own 3057,.ii a3,.ii a2,.ii a8,.ii a1]]⟩),(111,⟨.arr,1,a7⟩),(128,⟨.lit,9,[[.ii nv,.ii 1,.ii nv,.ii 0,.ii 1,.ii 0,.str u,.str (aaP #[105,110,98,111,120]),.str aaM]]⟩),(1111,⟨.arr,2,b0⟩),(3057,⟨.arr,4,[[.ii 0,.ii 1,.ii (A.num .add .i64 eN (A.bA a5)),.ow 9 ri]]⟩)]}:St):=by
   intro dn
   induction dn with
   | zero=>
    intro jg sA rb sB nn FK FL FM np xW xX xY b8 b9 dhn;exact absurd (show false=true from mB _ dhn 4 (by show 4 < 11;decide)) (by decide)
   | succ dn ih=>
    intro jg sA rb sB nn FK FL FM np xW xX xY b8 b9 dhn;subst NC;refine rv (is:=[0,1,2,3,4,5,6,7,8,9,10]) rfl ?_;refine aq (λh0 h1=>?_) ?_
    ·
     cases (show jg=false from h0);refine rn hA 1 ?_;refine sP ?_;exact ih rf xW xX xY b8 b9 (cd h0 dhn)
    refine aq (λh0 h1=>?_) ?_
    ·
     cases (show sA=false from h0);refine rn hA 1 ?_;refine sP ?_;exact ih np rf xX xY rf b9 (cd h0 dhn)
    refine aq (λh0 h1=>?_) ?_
    ·
     cases (show rb=false from h0);obtain rfl:sA=true:=h1.1;cases xW rfl;refine rn hA 1 ?_;refine sP ?_;exact ih np rf rf xY rf rf (cd h0 dhn)
    refine aq (λh0 h1=>?_) ?_
    ·
     cases (show sB=false from h0);obtain rfl:rb=true:=h1.1;cases xX rfl;cases b8 rfl;cases xW rfl;refine rn hA 1 ?_;refine sP ?_;exact ih np rf rf rf rf rf (cd h0 dhn)
    refine aq (λh0 h1=>?_) ?_
    ·
     obtain rfl:sB=true:=h1.1;cases xY rfl;cases b9 rfl;cases xX rfl;cases b8 rfl;cases xW rfl;refine Dn rfl rfl rfl rfl rfl rfl rfl rfl rfl rfl (λvN=>?_);refine ux (uj [.up 3057,.up 1111,.up 128,.up 126,.up 111,.up 11,.up 6,.up 4] (by cbv) rfl ?_);exact g1 vN dn np (cd h0 dhn)
    refine an ?_;refine an ?_;refine gX rfl rfl (λ_ h1=>absurd (show false=true from h1.1) (by decide)) ?_;refine gX rfl rfl (λ_ h1=>absurd (show false=true from h1.2.2.2.2.2.1) (by decide)) ?_;refine gX rfl rfl (λ_ h1=>absurd (show false=true from h1.1) (by decide)) ?_;refine gX rfl rfl (λ_ h1=>absurd (show false=true from h1.1) (by decide)) ?_;exact trivial
  have H_:∀(dn:Nat) {jg sA rb sB ve:Bool} {nn FK FL FM FJ:PV},(jg=true->nn=.pt 3057 0 0)->(sA=true->FK=.pt 3057 0 0)->(rb=true->FL=.pt 3057 0 0)->(sB=true->FM=.pt 3057 0 3)->(ve=true->FJ=.agg [.ii nv,.ii 1,.ii nv,.ii 0,.ii 1,.ii 0,.str u,.str (aaP #[105,110,98,111,120]),.str aaM])->(rb=true->sA=true)->(sB=true->rb=true)->lx [jg,sA,rb,sB,false,ve,false,false,false,false,false]=dn->mY T ⟨Real Tryz.prog,fo Tryz.prog,jh Tryz.prog,jA Tryz.prog⟩ dR dK dn [jg,sA,rb,sB,false,ve,false,false,false,false,false] ({sl:=iB++.pt 4 0 0::.aa::.pt 6 0 0::.bool false::dV++.pt 11 0 0::.aa::.aa::.pt 3057 0 0::tZ++nn::FK::FL::FM::.aa::FJ::rP,bl:=[(4,⟨.var,9,[[.ii nv,.ii 1,.ii nv,.ii 0,.ii 1,.ii 0,.str u,.str (aaP #[105,110,98,111,120]),.str aaM]]⟩),(6,⟨.var,8,[[.zc,.zc,.ii 0,.zc,.ii 0,.ii 0,.ii 0,.ii 0]]⟩),(11,⟨.var,8,[[.own 111,.own 1111,.ii b1,.own 3057,.ii a3,.ii a2,.ii a8,.ii a1]]⟩),(111,⟨.arr,1,a7⟩),(1111,⟨.arr,2,b0⟩),(3057,⟨.arr,4,[[.ii 0,.ii 1,.ii (A.num .add .i64 eN (A.bA a5)),.ow 9 ri]]⟩)]}:St):=by
   intro dn
   induction dn with
   | zero=>
    intro jg sA rb sB ve nn FK FL FM FJ np xW xX xY BC b8 b9 dhn;exact absurd (show false=true from mB _ dhn 4 (by show 4 < 11;decide)) (by decide)
   | succ dn ih=>
    intro jg sA rb sB ve nn FK FL FM FJ np xW xX xY BC b8 b9 dhn;subst NC;refine rv (is:=[0,1,2,3,4,5,6,7,8,9,10]) rfl ?_;refine aq (λh0 h1=>?_) ?_
    ·
     cases (show jg=false from h0);refine rn hA 1 ?_;refine sP ?_;exact ih rf xW xX xY BC b8 b9 (cd h0 dhn)
    refine aq (λh0 h1=>?_) ?_
    ·
     cases (show sA=false from h0);refine rn hA 1 ?_;refine sP ?_;exact ih np rf xX xY BC rf b9 (cd h0 dhn)
    refine aq (λh0 h1=>?_) ?_
    ·
     cases (show rb=false from h0);obtain rfl:sA=true:=h1.1;cases xW rfl;refine rn hA 1 ?_;refine sP ?_;exact ih np rf rf xY BC rf rf (cd h0 dhn)
    refine aq (λh0 h1=>?_) ?_
    ·
     cases (show sB=false from h0);obtain rfl:rb=true:=h1.1;cases xX rfl;cases b8 rfl;cases xW rfl;refine rn hA 1 ?_;refine sP ?_;exact ih np rf rf rf BC rf rf (cd h0 dhn)
    refine aq (λh0 h1=>?_) ?_
    ·
     obtain rfl:sB=true:=h1.1;cases xY rfl;cases b9 rfl;cases xX rfl;cases b8 rfl;cases xW rfl;refine Dn rfl rfl rfl rfl rfl rfl rfl rfl rfl rfl (λvN=>?_);refine ux (uj [.up 3057,.up 1111,.up 126,.up 111,.up 11,.up 6,.up 4] (by cbv) rfl ?_);exact H_4 vN dn np BC (cd h0 dhn)
    refine aq (λh0 h1=>?_) ?_
    ·
     cases (show ve=false from h0);refine rn hA 1 ?_;refine sP ?_;exact ih np xW xX xY rf b8 b9 (cd h0 dhn)
    refine aq (λh0 h1=>?_) ?_
    ·
     obtain rfl:ve=true:=h1.1;cases BC rfl;refine rn hA 1 ?_;refine ux (uj [.up 3057,.up 1111,.up 128,.up 111,.up 11,.up 6,.up 4] (by cbv) rfl ?_);exact H_6 dn np xW xX xY b8 b9 (cd h0 dhn)
    refine gX rfl rfl (λ_ h1=>absurd (show false=true from h1.1) (by decide)) ?_;refine gX rfl rfl (λ_ h1=>absurd (show false=true from h1.2.2.2.2.2.1) (by decide)) ?_;refine gX rfl rfl (λ_ h1=>absurd (show false=true from h1.1) (by decide)) ?_;refine gX rfl rfl (λ_ h1=>absurd (show false=true from h1.1) (by decide)) ?_;exact trivial
  exact uj [.up 3057,.up 1111,.up 111,.up 11,.up 6,.up 4] (by cbv) rfl (@H_ 11 false false false false false (.aa) (.aa) (.aa) (.aa) (.aa) nf nf nf nf nf nf nf rfl)
 refine gs (gr (rn hA 5 ?_));obtain⟨m31,i8⟩:=nm (max a2 (A.num .add .i64 nv 1):Int);refine fk rfl (BU rfl rfl rfl i8) ?_;refine rz hA 2 ?_;refine gs (gr (rn hA 6 ?_));obtain⟨m32,g8⟩:=nm (max a1 (A.num .add .i64 nv 1):Int);refine fk rfl (BU rfl rfl rfl g8) ?_;refine rz hA 2 ?_;refine gx hA 3 ?_;refine rt (gt ?_);show _=PV.aw [.agg [.ow 1 a7,.ow 2 b0,.ii b1,.ow 4 ([[.ii 0,.ii 1,.ii (A.num .add .i64 eN (A.bA a5)),.ow 9 NB]]),.ii a3,.ii m31,.ii a8,.ii m32],.bool true];subst hnv;have w0:eg (L++[(dW ((L.length:Int)+1) u)])=eg L+(20+u.size):=DL L _;have w1:A.num .add .i64 eN (A.bA a5)=((eg (L++[(dW ((L.length:Int)+1) u)]):Nat):Int):=by rw[au hA (by omega) (by omega),w0,zs];omega
 have w2:[[.ii 0,.ii 1,.ii (A.num .add .i64 eN (A.bA a5)),.ow 9 NB]]=aaN bW [fB (L++[(dW ((L.length:Int)+1) u)])]:=by
  rw[w1,i5];show _=([[.ii 0,.ii 1,.ii ((eg (L++[(dW ((L.length:Int)+1) u)]):Nat):Int),.ow 9 (aaN da (bx (L++[(dW ((L.length:Int)+1) u)])))]]:RR);rw[show bx (L++[(dW ((L.length:Int)+1) u)])=bx L++[mI (dW ((L.length:Int)+1) u)] from abQ ..]
  try rw[abv]
  rfl
 have w3:A.num .add .i64 ((L.length:Int)+1) 1=(L.length:Int)+2:=by rw[au hA (by omega) (by omega)];omega
 have i3:m31=(L.length:Int)+2:=by rw[i8,w3];omega
 have i7:m32=(L.length:Int)+2:=by rw[g8,w3];omega
 have w5:fl a0 (wr a0 (aaO (8+0 * 8)) (aaO eN) a5)=fl a0 (wr a0 8 (eg L) (oy A (dW ((L.length:Int)+1) u))):=by rw[d7,Ru,Int.toNat_natCast];rfl
 rw[w2];simp only[b5,c0,w5,lng,lsp,i3,i7];rfl
theorem BD (A:ax)(hA:A=aj)(x:bF)(N:Int)(L:List aT)(h:gV A x N L)(u:ByteArray)(nv:Int)(kL:L.length<=2)(hm:dN L ((L.length:Int)+1) u=true)(hnv:nv=(L.length:Int)+1)(sq:Int)(hsq:sq=nv):al 214 [.agg (mT x),.agg [.ii sq,.ii 1,.ii nv,.ii 0,.ii 1,.ii 0,.str u,.str (aaP #[105,110,98,111,120]),.str aaM],.ii 2] (.aw [.agg (rV (lf A x L u)),.bool true]):=by
 subst hsq;exact Cx A hA x N L h u sq kL hm hnv
theorem D7 (A:ax)(hA:A=aj)(x:bF)(N:Int)(L:List aT)(h:gV A x N L)(u:ByteArray)(nv:Int)(kL:L.length<=2)(hm:dN L ((L.length:Int)+1) u=true)(hnv:nv=(L.length:Int)+1):al 133 [.agg (mT x),.agg [.ii 1,.ii nv,.ii 0,.ii 1,.ii 0,.str u,.str (aaP #[105,110,98,111,120]),.str aaM],.ii 2] (.aw [.agg (rV (lf A x L u)),.bool true]):=by
 obtain⟨⟨a0,a1⟩,a7,a5,a4,a3,a6,a2⟩:=x;obtain⟨b8,b0,d1⟩:=nr hA ah a0;obtain⟨c2,b1,d3⟩:=nr hA bn a1;obtain⟨d2,c4,d5⟩:=nr hA cA a5;refine ak (az:=[.agg [.sl 1 b8,.sl 2 c2,.ii a7,.sl 4 d2,.ii a4,.ii a3,.ii a6,.ii a2],.agg [.ii 1,.ii nv,.ii 0,.ii 1,.ii 0,.str u,.str (aaP #[105,110,98,111,120]),.str aaM],.ii 2]) (by subst b0 b1 c4;rfl) ?_;have hlog:=h;obtain⟨n5,jq,gd,l3,dk,ca,ln,sg,us,lng,lns,lsp,lnv,tx⟩:=h;have oE:eM ⟨a0,a1⟩:=dk;have ca:a1=[]:=ca;have ln:(aaK a0:Int)=8+N * 8:=ln;have sg:a7=N:=sg;have us:a5=[fB L]:=us;have lng:a4=2:=lng;have lns:a3=(aaK L:Int)+1:=lns;have lsp:a6=1:=lsp;have lnv:a2=(aaK L:Int)+1:=lnv;have uT:aaK a5=1:=by rw[us];rfl
 have lca:aaK a1=0:=by rw[ca];rfl
 have hil:=hlog.len;have hzl:=hlog.zs;have hit:bm a5=bx L:=hlog.items;have hib:aaK (bx L)=aaK L:=aaS ..;have hend:=hlog.end_;have hilx:(bm a5).length<=1048576:=hil;refine aY Tryz.func133 ?_;refine gx hA 4 ?_;refine gs (gr (rn hA 6 ?_));obtain⟨b2,b5,c7,c8,c0,c1,c5,b6,a8,a9,c6,b3,b7,b9,c3,b4,aJ⟩:=Uk (aaN ah (((lf A (⟨⟨a0,a1⟩,a7,a5,a4,a3,a6,a2⟩:bF) L u).ba).aD)) (aaN aU (((lf A (⟨⟨a0,a1⟩,a7,a5,a4,a3,a6,a2⟩:bF) L u).ba).Cache)) ((lf A (⟨⟨a0,a1⟩,a7,a5,a4,a3,a6,a2⟩:bF) L u).ld) (aaN bW ((lf A (⟨⟨a0,a1⟩,a7,a5,a4,a3,a6,a2⟩:bF) L u).Used)) ((lf A (⟨⟨a0,a1⟩,a7,a5,a4,a3,a6,a2⟩:bF) L u).dZ) ((lf A (⟨⟨a0,a1⟩,a7,a5,a4,a3,a6,a2⟩:bF) L u).ea) ((lf A (⟨⟨a0,a1⟩,a7,a5,a4,a3,a6,a2⟩:bF) L u).fv) ((lf A (⟨⟨a0,a1⟩,a7,a5,a4,a3,a6,a2⟩:bF) L u).cT) true (BD A hA (⟨⟨a0,a1⟩,a7,a5,a4,a3,a6,a2⟩:bF) N L hlog u nv kL hm hnv a3 (by omega));have c9:=ab hA a8;have d0:=ab hA a9;have d4:=ab hA b3;refine aH aJ (.inr rfl) ?_ (hv:=by subst b0 b1 c4;rfl);refine rz hA 4 ?_;refine rt (gt ?_);show _=PV.aw [.agg [.ow 1 b2,.ow 2 b5,.ii c7,.ow 4 c8,.ii c0,.ii c1,.ii c5,.ii b6],.bool true];simp only[a8,a9,b3,c6,b7,b9,c3,b4];rfl
theorem oR (A:ax)(hA:A=aj)(t:ByteArray)(h:dw t=true):al 152 [.str t] (.bool true):=by
 have hz:=fV h;have hr:=nd A hA t (by omega)
 rwa [h] at hr
def Yj (p0:Int)(p1:RR):St:={sl:=.aa::.pt 1 0 0::.aa::.ii p0::Vs,bl:=[(1,⟨.var,1,[[.sl 5 p1]]⟩)]}
def Yk (p0 p1:Int)(p2 p3:Bool)(p4:RR)(p5 p6:Int)(p7 p8:ByteArray)(p9:Int)(fj:RR)(fc:Int)(ku:Bool)(ou:ByteArray)(qP:Bool)(so:ByteArray)(Bd:Int)(Ll:RR):St:={sl:=.aa::.pt 1 0 0::.aa::.ii p0::.pt 4 0 0::.ii p1::yc++.ii p0::.bool p2::.bool p3::.pt 1 0 0::.sl 5 p4::.ii p0::.ii p5::.rd [.ii p6,.str p7,.str p8,.ii p9,.sl 3 fj]::.rd [.ii p6,.str p7,.str p8,.ii p9,.sl 3 fj]::.ii p6::.pt 4 0 0::.ii fc::.bool ku::.bool ku::.aa::.aa::.pt 4 0 1::.str ou::.bool p3::.bool qP::.aa::.aa::.pt 4 0 2::.str so::.bool p3::.bool qP::.aa::.aa::.pt 4 0 3::.ii Bd::.bool p3::.bool qP::JE,bl:=[(4,⟨.var,5,[[.ii fc,.str ou,.str so,.ii Bd,.sl 3 Ll]]⟩),(1,⟨.var,1,[[.sl 5 p4]]⟩)]}
def Yl (p0 p1:Int)(p2 p3:Bool)(p4:RR)(p5 p6:Int)(p7 p8:ByteArray)(p9:Int)(fj:RR)(fc:Int)(ku:Bool)(ou:ByteArray)(qP:Bool)(so:ByteArray)(Bd:Int)(Ll:RR):St:={sl:=.aa::.pt 1 0 0::.aa::.ii p0::.pt 4 0 0::.aa::.ii p1::yb++.ii p0::.bool p2::.bool p3::.pt 1 0 0::.sl 5 p4::.ii p0::.ii p5::.rd [.ii p6,.str p7,.str p8,.ii p9,.sl 3 fj]::.rd [.ii p6,.str p7,.str p8,.ii p9,.sl 3 fj]::.ii p6::.pt 4 0 0::.ii fc::.bool ku::.bool ku::.aa::.aa::.pt 4 0 1::.str ou::.bool p3::.bool qP::.aa::.aa::.pt 4 0 2::.str so::.bool p3::.bool qP::.aa::.aa::.pt 4 0 3::.ii Bd::.bool p3::.bool qP::JE,bl:=[(4,⟨.var,5,[[.ii fc,.str ou,.str so,.ii Bd,.sl 3 Ll]]⟩),(1,⟨.var,1,[[.sl 5 p4]]⟩)]}
def Ym (p0 p1:Int)(p2 p3:Bool)(p4:ByteArray)(p5 p6:Bool)(p7:ByteArray)(p8 p9:Int)(fj fc:RR):St:={sl:=.aa::.pt 1 0 0::.aa::.ii p0::.pt 4 0 0::.ii p1::yc++.ii p0::.bool p2::.bool p3::.aw []::.aw []::.aw []::.aw []::.aw []::.aw []::.aw []::.aw []::.aw []::.aw []::.bool p3::.aa::.aa::.pt 4 0 1::.str p4::.bool p5::.bool p6::.aa::.aa::.pt 4 0 2::.str p7::.bool p5::.bool p6::.aa::.aa::.pt 4 0 3::.ii p8::.bool p5::.bool p6::JE,bl:=[(4,⟨.var,5,[[.ii p9,.str p4,.str p7,.ii p8,.sl 3 fj]]⟩),(1,⟨.var,1,[[.sl 5 fc]]⟩)]}
def Yn (p0 p1:Int)(p2 p3:Bool)(p4:ByteArray)(p5 p6:Bool)(p7:ByteArray)(p8 p9:Int)(fj fc:RR):St:={sl:=.aa::.pt 1 0 0::.aa::.ii p0::.pt 4 0 0::.aa::.ii p1::yb++.ii p0::.bool p2::.bool p3::.aw []::.aw []::.aw []::.aw []::.aw []::.aw []::.aw []::.aw []::.aw []::.aw []::.bool p3::.aa::.aa::.pt 4 0 1::.str p4::.bool p5::.bool p6::.aa::.aa::.pt 4 0 2::.str p7::.bool p5::.bool p6::.aa::.aa::.pt 4 0 3::.ii p8::.bool p5::.bool p6::JE,bl:=[(4,⟨.var,5,[[.ii p9,.str p4,.str p7,.ii p8,.sl 3 fj]]⟩),(1,⟨.var,1,[[.sl 5 fc]]⟩)]}
theorem Hl (A:ax)(hA:A=aj)(s:cY)(hg:gD s.fF):al 157 [.agg (jn s)] (.bool true):=by
 obtain⟨a4⟩:=s;obtain⟨a0,a9,f1⟩:=nr hA iG a4;refine ak (az:=[.agg [.sl 5 a0]]) (by subst a9;rfl) ?_;have hg:gD a4:=hg;have hg4:=hg.1;refine aY Tryz.func157 ?_;refine gx hA 2 ?_;refine gs (gx hA 1 ?_);refine af ?_;refine aF (λσ m=>∃(i:Nat) (n:Int),σ=(Yj n a0)/\(n=(i:Int)/\i<=aaK a4)/\m=aaK a4 - i) _ [] [1,3] [1] _ rfl (by cbv) ⟨0,0,rfl,?_,rfl⟩ (λσ m hI=>?_)
 ·
  exact⟨rfl,aaW _⟩
 obtain⟨i,n,rfl,⟨hn,hi⟩,rfl⟩:=hI;have wsub:A.num .sub .i64 n 1=n - 1:=by rw[dE hA (by omega) (by omega)]
 refine gs (gx hA 5 ?_);refine gc (λc1=>?_) (λc1=>?_)
 ·
  have aV:n < (A.ao a0):=aP hA c1;refine gk (gs (af (gs (gr (rn hA 3 ?_)))));obtain⟨j4,m8,x2,cX,m4⟩:=ga a4 n (by omega) (by omega);obtain⟨a1,a3,a7,a8,d0⟩:=x2;obtain⟨a2,e4,g8⟩:=nr hA jV d0;have i8:a0[(aaO n)]? =some [.ii a1,.str a3,.str a7,.ii a8,.sl 3 a2]:=by
   subst e4;exact bC iG a9 cX
  obtain⟨e8,f2,_,_⟩:=qh hg cX;have m7:a1=((aaO n:Nat):Int)+1:=congrArg aT.Valid e8;have g5:a7=cG:=congrArg aT.Name e8;have m1:a8=1:=congrArg aT.Next e8;have j6:d0=[]:=congrArg aT.fQ e8;have m2:aaK d0=0:=by rw[j6];rfl
  have f2:dw a3=true:=f2;refine ee j4 i8 ?_;refine rz hA 3 ?_;refine gs (gs ?_);refine cz [0,1,2,3,4,5,6,7,8,9,10,11,12,13,14,15,16,17,18,19,20,21,22,23,24,25,26,27,28,29,30,31,32,33,34,35,36,37] (by cbv) ?_;refine bL hA 2 ?_;have cL:=ff A hA a1 1 9999 (by omega) (by omega);refine eQ cL (.inr rfl) ?_;refine bL hA 2 ?_;refine bV 24 rfl (λc5=>?_) (λc5=>?_)
  ·
   exact ay c5 (by subst hA;rfl)
  refine bL hA 3 ?_;refine bV 27 rfl (λc6=>?_) (λc6=>?_)
  ·
   have cp:0 < n:=dJ hA c6;refine bL hA 4 ?_;obtain⟨i5,n0,x7,ov,l4⟩:=ga a4 (A.num .sub .i64 n 1) (by omega) (by omega);obtain⟨a5,b4,b5,b6,d1⟩:=x7;obtain⟨b0,e5,g7⟩:=nr hA jV d1;have i9:a0[(aaO (A.num .sub .i64 n 1))]? =some [.ii a5,.str b4,.str b5,.ii b6,.sl 3 b0]:=by
    subst e5;exact bC iG a9 ov
   obtain⟨f0,g1,_,_⟩:=qh hg ov;have l8:a5=((aaO (A.num .sub .i64 n 1):Nat):Int)+1:=congrArg aT.Valid f0;have l7:b5=cG:=congrArg aT.Name f0;have m3:b6=1:=congrArg aT.Next f0;have i6:d1=[]:=congrArg aT.fQ f0;have l9:aaK d1=0:=by rw[i6];rfl
   have g1:dw b4=true:=g1;refine lD rfl rfl rfl rfl rfl (jO rfl rfl rfl rfl rfl i5 rfl i9) ?_;refine bL hA 8 ?_;refine bV 40 rfl (λc8=>?_) (λc8=>?_)
   ·
    have gz:a1<=a5:=qy hA c8;exfalso;omega
   have gz:a5 < a1:=qz hA c8;refine bL hA 2 ?_;have j9:=oR A hA a3 f2;refine fE rfl rfl rfl rfl (by cbv) (by cbv) j9 (.inr rfl) ?_;refine bL hA 3 ?_;refine bV 46 rfl (λcf=>?_) (λcf=>?_)
   ·
    exact ay cf (by subst hA;rfl)
   refine bL hA 2 ?_;have j7:=oR A hA a7 (by rw[g5];exact DQ);refine fE rfl rfl rfl rfl (by cbv) (by cbv) j7 (.inr rfl) ?_;refine bL hA 3 ?_;refine bV 52 rfl (λdF=>?_) (λdF=>?_)
   ·
    exact ay dF (by subst hA;rfl)
   refine bL hA 2 ?_;have i7:=ff A hA a8 1 10000 (by omega) (by omega);refine fE rfl rfl rfl rfl (by cbv) (by cbv) i7 (.inr rfl) ?_;refine dz hA 2 ?_;refine gc (λgG=>?_) (λgG=>?_)
   ·
    exact ay gG (by subst hA;rfl)
   refine gk (gs (gx hA 1 ?_));refine af ?_;refine aF (λσ m=>∃(k:Nat) (n2:Int),σ=(Yk n n2 (A.cmp .gtr n 0) true a0 (A.num .sub .i64 n 1) a5 b4 b5 b6 b0 a1 (A.cmp .geq a5 a1) a3 (A.eB true) a7 a8 a2)/\(n2=(k:Int)/\k<=i)/\m=i - k) _ [] [1,3,4,5,25,26,27,28,29,30,31,32,33,34,35,36,37,38,41,42,43,44,47,48,49,50,53,54,55,56] [4,1] _ rfl (by cbv) ⟨0,0,rfl,?_,rfl⟩ (λσ m hI=>?_)
   ·
    exact⟨rfl,aaW _⟩
   obtain⟨k,n2,rfl,⟨hk,hkl⟩,rfl⟩:=hI;refine gs (gx hA 3 ?_);refine gc (λiu=>?_) (λiu=>?_)
   ·
    have j8:n2 < n:=aP hA iu;refine gk (gs (af (gs ?_)));refine cz [0,1,2,3,4,5,6,7,8,9,10,11,12,13,14,15,16,17,18,19] (by cbv) ?_;refine bL hA 3 ?_;obtain⟨i1,k6,Ro,f3,k7⟩:=ga a4 n2 (by omega) (by omega);obtain⟨d4,b8,d9,e2,c3⟩:=Ro;obtain⟨e3,d7,f8⟩:=nr hA jV c3;have i0:a0[(aaO n2)]? =some [.ii d4,.str b8,.str d9,.ii e2,.sl 3 e3]:=by
     subst d7;exact bC iG a9 f3
    obtain⟨d6,f5,_,_⟩:=qh hg f3;have l3:d4=((aaO n2:Nat):Int)+1:=congrArg aT.Valid d6;have l2:d9=cG:=congrArg aT.Name d6;have k2:e2=1:=congrArg aT.Next d6;have i3:c3=[]:=congrArg aT.fQ d6;have k3:aaK c3=0:=by rw[i3];rfl
    have f5:dw b8=true:=f5;refine ob i1 i0 ?_;refine bL hA 6 ?_;refine bV 72 rfl (λjw=>?_) (λjw=>?_)
    ·
     have g3:b8=a3:=pf hA jw;exact absurd g3 (Nf hg cX f3 (by omega))
    have g3:b8≠a3:=oa hA jw;refine dz hA 10 ?_;refine gc (λqM=>?_) (λqM=>?_)
    ·
     exact ay qM (by rfl)
    refine gk (gy hA 3 ?_);refine⟨_,_,?_,by cbv,k+1,(A.num .add .i64 n2 1),rfl,?_,rfl⟩
    ·
     omega
    exact⟨by rw[au hA (by omega) (by omega)];omega,by omega⟩
   have j8:n<=n2:=aQ hA iu;refine aI (gE ?_);refine gx hA 1 ?_;refine af ?_;refine aF (λσ m=>∃(n3:Int),σ=(Yl n n3 (A.cmp .gtr n 0) true a0 (A.num .sub .i64 n 1) a5 b4 b5 b6 b0 a1 (A.cmp .geq a5 a1) a3 (A.eB true) a7 a8 a2)/\(n3=0)/\m=0) _ [] [1,3,4,6,25,26,27,28,29,30,31,32,33,34,35,36,37,38,41,42,43,44,47,48,49,50,53,54,55,56] [4,1] _ rfl (by cbv) ⟨0,rfl,?_,rfl⟩ (λσ m hI=>?_)
   ·
    exact rfl
   obtain⟨n3,rfl,Bq,rfl⟩:=hI;refine gs (gx hA 5 ?_);refine gc (λsm=>?_) (λsm=>?_)
   ·
    have j1:n3 < (A.ao a2):=aP hA sm;exfalso;omega
   have j1:(A.ao a2)<=n3:=aQ hA sm;refine aI (gE ?_);refine gy hA 3 ?_;refine⟨_,_,?_,by cbv,i+1,(A.num .add .i64 n 1),rfl,?_,rfl⟩
   ·
    omega
   exact⟨by rw[au hA (by omega) (by omega)];omega,by omega⟩
  have cp:n<=0:=dL hA c6;refine bL hA 15 ?_;have j0:=oR A hA a3 f2;refine fE rfl rfl rfl rfl (by cbv) (by cbv) j0 (.inr rfl) ?_;refine bL hA 3 ?_;refine bV 46 rfl (λoV=>?_) (λoV=>?_)
  ·
   exact ay oV (by subst hA;rfl)
  refine bL hA 2 ?_;have k1:=oR A hA a7 (by rw[g5];exact DQ);refine fE rfl rfl rfl rfl (by cbv) (by cbv) k1 (.inr rfl) ?_;refine bL hA 3 ?_;refine bV 52 rfl (λrj=>?_) (λrj=>?_)
  ·
   exact ay rj (by subst hA;rfl)
  refine bL hA 2 ?_;have j2:=ff A hA a8 1 10000 (by omega) (by omega);refine fE rfl rfl rfl rfl (by cbv) (by cbv) j2 (.inr rfl) ?_;refine dz hA 2 ?_;refine gc (λoo=>?_) (λoo=>?_)
  ·
   exact ay oo (by subst hA;rfl)
  refine gk (gs (gx hA 1 ?_));refine af ?_;refine aF (λσ m=>∃(k:Nat) (n2:Int),σ=(Ym n n2 (A.cmp .gtr n 0) false a3 true (A.eB true) a7 a8 a1 a2 a0)/\(n2=(k:Int)/\k<=i)/\m=i - k) _ [] [1,3,4,5,25,26,27,28,29,30,31,32,33,34,35,36,37,38,41,42,43,44,47,48,49,50,53,54,55,56] [4,1] _ rfl (by cbv) ⟨0,0,rfl,?_,rfl⟩ (λσ m hI=>?_)
  ·
   exact⟨rfl,aaW _⟩
  obtain⟨k,n2,rfl,⟨hk,hkl⟩,rfl⟩:=hI;refine gs (gx hA 3 ?_);refine gc (λuJ=>?_) (λuJ=>?_)
  ·
   have j3:n2 < n:=aP hA uJ;refine gk (gs (af (gs ?_)));refine cz [0,1,2,3,4,5,6,7,8,9,10,11,12,13,14,15,16,17,18,19] (by cbv) ?_;refine bL hA 3 ?_;obtain⟨i4,k9,x33,f4,k4⟩:=ga a4 n2 (by omega) (by omega);obtain⟨d3,b7,d8,e1,c0⟩:=x33;obtain⟨e6,e0,g4⟩:=nr hA jV c0;have i2:a0[(aaO n2)]? =some [.ii d3,.str b7,.str d8,.ii e1,.sl 3 e6]:=by
    subst e0;exact bC iG a9 f4
   obtain⟨d5,f6,_,_⟩:=qh hg f4;have k8:d3=((aaO n2:Nat):Int)+1:=congrArg aT.Valid d5;have l0:d8=cG:=congrArg aT.Name d5;have l1:e1=1:=congrArg aT.Next d5;have g9:c0=[]:=congrArg aT.fQ d5;have k5:aaK c0=0:=by rw[g9];rfl
   have f6:dw b7=true:=f6;refine ob i4 i2 ?_;refine bL hA 6 ?_;refine bV 72 rfl (λzC=>?_) (λzC=>?_)
   ·
    have g0:b7=a3:=pf hA zC;exact absurd g0 (Nf hg cX f4 (by omega))
   have g0:b7≠a3:=oa hA zC;refine dz hA 10 ?_;refine gc (λCY=>?_) (λCY=>?_)
   ·
    exact ay CY (by rfl)
   refine gk (gy hA 3 ?_);refine⟨_,_,?_,by cbv,k+1,(A.num .add .i64 n2 1),rfl,?_,rfl⟩
   ·
    omega
   exact⟨by rw[au hA (by omega) (by omega)];omega,by omega⟩
  have j3:n<=n2:=aQ hA uJ;refine aI (gE ?_);refine gx hA 1 ?_;refine af ?_;refine aF (λσ m=>∃(n3:Int),σ=(Yn n n3 (A.cmp .gtr n 0) false a3 true (A.eB true) a7 a8 a1 a2 a0)/\(n3=0)/\m=0) _ [] [1,3,4,6,25,26,27,28,29,30,31,32,33,34,35,36,37,38,41,42,43,44,47,48,49,50,53,54,55,56] [4,1] _ rfl (by cbv) ⟨0,rfl,?_,rfl⟩ (λσ m hI=>?_)
  ·
   exact rfl
  obtain⟨n3,rfl,Bq,rfl⟩:=hI;refine gs (gx hA 5 ?_);refine gc (λqS=>?_) (λqS=>?_)
  ·
   have k0:n3 < (A.ao a2):=aP hA qS;exfalso;omega
  have k0:(A.ao a2)<=n3:=aQ hA qS;refine aI (gE ?_);refine gy hA 3 ?_;refine⟨_,_,?_,by cbv,i+1,(A.num .add .i64 n 1),rfl,?_,rfl⟩
  ·
   omega
  exact⟨by rw[au hA (by omega) (by omega)];omega,by omega⟩
 have aV:(A.ao a0)<=n:=aQ hA c1;refine aI (gE ?_);refine gx hA 1 ?_;refine rt (gt ?_);show _=(PV.bool true);rfl
def Yo (p0:Int)(p1:RR):St:={sl:=.aa::.aa::.pt 2 0 0::.pt 3 0 0::.aa::.ii p0::Tu,bl:=[(3,⟨.var,1,[[.sl 5 p1]]⟩),(2,⟨.var,1,[[.sl 5 p1]]⟩)]}
def Yp (p0 p1:Int)(p2:ByteArray)(p3:Bool)(p4:ByteArray)(p5:Bool)(p6:Int)(p7:Bool)(p8:RR)(p9:Int)(fj:Bool)(fc:Int)(ku:RR):St:={sl:=.aa::.aa::.pt 2 0 0::.pt 3 0 0::.aa::.ii p0::.pt 6 0 0::.pt 7 0 0::.ii p1::NL++.pt 6 0 1::.str p2::.pt 7 0 1::.str p2::.bool p3::.aa::.aa::.pt 6 0 2::.str p4::.pt 7 0 2::.str p4::.bool p5::.aa::.aa::.pt 6 0 3::.ii p6::.pt 7 0 3::.ii p6::.bool p7::.aa::.aa::.pt 6 0 4::.sl 3 p8::.ii p9::.pt 7 0 4::.sl 3 p8::.ii p9::.bool fj::yc,bl:=[(7,⟨.var,5,[[.ii fc,.str p2,.str p4,.ii p6,.sl 3 p8]]⟩),(6,⟨.var,5,[[.ii fc,.str p2,.str p4,.ii p6,.sl 3 p8]]⟩),(3,⟨.var,1,[[.sl 5 ku]]⟩),(2,⟨.var,1,[[.sl 5 ku]]⟩)]}
theorem D6 (A:ax)(hA:A=aj)(s:cY)(hg:gD s.fF):al 158 [.agg (jn s),.agg (jn s)] (.bool true):=by
 obtain⟨a4⟩:=s;obtain⟨a0,a9,f1⟩:=nr hA iG a4;refine ak (az:=[.agg [.sl 5 a0],.agg [.sl 5 a0]]) (by subst a9;rfl) ?_;have hg:gD a4:=hg;have hg4:=hg.1;refine aY Tryz.func158 ?_;refine gx hA 3 ?_;refine gs (gx hA 7 ?_);refine gc (λc1=>?_) (λc1=>?_)
 ·
  exact ay c1 (by subst hA;simp[aj])
 refine gk (gs (gx hA 1 ?_));refine af ?_;refine aF (λσ m=>∃(i:Nat) (n:Int),σ=(Yo n a0)/\(n=(i:Int)/\i<=aaK a4)/\m=aaK a4 - i) _ [] [2,3,5] [3,2] _ rfl (by cbv) ⟨0,0,rfl,?_,rfl⟩ (λσ m hI=>?_)
 ·
  exact⟨rfl,aaW _⟩
 obtain⟨i,n,rfl,⟨hn,hi⟩,rfl⟩:=hI;refine gs (gx hA 5 ?_);refine gc (λc2=>?_) (λc2=>?_)
 ·
  have iY:n < (A.ao a0):=aP hA c2;refine gk (gs (af (gs (gr (rn hA 3 ?_)))));obtain⟨f7,l5,x3,tc,l6⟩:=ga a4 n (by omega) (by omega);obtain⟨b9,b1,b3,b2,d2⟩:=x3;obtain⟨a6,e7,g6⟩:=nr hA jV d2;have f9:a0[(aaO n)]? =some [.ii b9,.str b1,.str b3,.ii b2,.sl 3 a6]:=by
   subst e7;exact bC iG a9 tc
  obtain⟨e9,g2,_,_⟩:=qh hg tc;have m5:b9=((aaO n:Nat):Int)+1:=congrArg aT.Valid e9;have m6:b3=cG:=congrArg aT.Name e9;have m0:b2=1:=congrArg aT.Next e9;have j5:d2=[]:=congrArg aT.fQ e9;have m9:aaK d2=0:=by rw[j5];rfl
  have g2:dw b1=true:=g2;refine ee f7 f9 ?_;refine rz hA 3 ?_;refine gs (gr (rn hA 3 ?_));refine ee f7 f9 ?_;refine rz hA 3 ?_;refine gs (gs (gr (rn hA 6 ?_)));refine ag 38 rfl (λc4=>?_) (λc4=>?_)
  ·
   exact ay c4 (by subst hA;simp[aj])
  refine rn hA 7 ?_;refine ag 45 rfl (λc5=>?_) (λc5=>?_)
  ·
   exact ay c5 (by subst hA;simp[aj])
  refine rn hA 7 ?_;refine ag 52 rfl (λc6=>?_) (λc6=>?_)
  ·
   exact ay c6 (by subst hA;simp[aj])
  refine rn hA 7 ?_;refine ag 59 rfl (λc7=>?_) (λc7=>?_)
  ·
   exact ay c7 (by subst hA;simp[aj])
  refine rz hA 8 ?_;refine gc (λc8=>?_) (λc8=>?_)
  ·
   exact ay c8 (by subst hA;simp[aj])
  refine gk (gx hA 1 ?_);refine af ?_;refine aF (λσ m=>∃(n3:Int),σ=(Yp n n3 b1 (A.nZ .neq b1 b1) b3 (A.nZ .neq b3 b3) b2 (A.cmp .neq b2 b2) a6 (A.ao a6) (A.cmp .neq (A.ao a6) (A.ao a6)) b9 a0)/\(n3=0)/\m=0) _ [] [2,3,5,6,7,8,39,40,41,42,43,46,47,48,49,50,53,54,55,56,57,60,61,62,63,64,65,66] [7,6,3,2] _ rfl (by cbv) ⟨0,rfl,?_,rfl⟩ (λσ m hI=>?_)
  ·
   exact rfl
  obtain⟨n3,rfl,Bq,rfl⟩:=hI;refine gs (gx hA 5 ?_);refine gc (λc9=>?_) (λc9=>?_)
  ·
   have po:n3 < (A.ao a6):=aP hA c9;exfalso;omega
  have po:(A.ao a6)<=n3:=aQ hA c9;refine aI (gE ?_);refine gy hA 3 ?_;refine⟨_,_,?_,by cbv,i+1,(A.num .add .i64 n 1),rfl,?_,rfl⟩
  ·
   omega
  exact⟨by rw[au hA (by omega) (by omega)];omega,by omega⟩
 have iY:(A.ao a0)<=n:=aQ hA c2;refine aI (gE ?_);refine gx hA 1 ?_;refine rt (gt ?_);show _=(PV.bool true);rfl
theorem pQ (A:ax)(hA:A=aj)(x:aK)(N:Int)(L:List aT)(hx:iQ A x N L):al 31 [.agg (iv x)] (.agg (nz ⟨L⟩)):=by
 have hr:=Fe A hA x hx.zs hx.lg.len;rw[hx.lg.items,yV hx.lg.gd] at hr;exact hr
theorem lj (A:ax)(hA:A=aj)(x:aK)(N:Int)(L:List aT)(hx:iQ A x N L):al 26 [.agg (iv x)] (.agg (nz ⟨L⟩)):=by
 have hr:=Ff A hA x hx.zs hx.lg.len;rw[hx.lg.items,yV hx.lg.gd] at hr;exact hr
theorem FN (A:ax)(hA:A=aj)(xs:List ae)(L:List aT)(hxs:xs=bx L)(gd:gD L):al 52 [.sl 9 (aaN aW xs)] (.agg (nz ⟨L⟩)):=by
 subst hxs;have hr:=xF A hA (bx L) (sv gd);rw[yV gd] at hr;exact hr
def Xc (p0 p1:Int)(p2 p3:RR)(p4:Int)(p5:RR)(p6 p7 p8 p9:Int)(fj:RR):St:={sl:=.aa::.ii p0::.pt 2 0 0::.aa::.aa::.ii p1::BI,bl:=[(2,⟨.var,9,[[.sl 1 p2,.sl 2 p3,.ii p4,.sl 4 p5,.ii p6,.ii p7,.ii p8,.ii p9,.sl 1 fj]]⟩)]}
theorem Fv (A:ax)(hA:A=aj)(x:aK)(v:Int)(hf:aaK x.cW<=1048576):al 160 [.agg (iv x),.ii v] (.bool (C3 x.cW v)):=by
 obtain⟨⟨⟨a5,a9⟩,b1,a0,a7,a8,b0,a3⟩,a6⟩:=x;obtain⟨a1,b2,c0⟩:=nr hA ah a5;obtain⟨a4,b4,c7⟩:=nr hA bn a9;obtain⟨a2,b5,d3⟩:=nr hA cA a0;obtain⟨b3,b6,d5⟩:=nr hA bq a6;refine ak (az:=[.agg [.sl 1 a1,.sl 2 a4,.ii b1,.sl 4 a2,.ii a7,.ii a8,.ii b0,.ii a3,.sl 1 b3],.ii v]) (by subst b2 b4 b5 b6;rfl) ?_;have hf:aaK a6<=1048576:=hf;refine aY Tryz.func160 ?_;refine gx hA 2 ?_;refine gs (gx hA 1 ?_);refine af ?_;refine aF (λσ m=>∃(i:Nat) (n:Int),σ=(Xc v n a1 a4 b1 a2 a7 a8 b0 a3 b3)/\(n=(i:Int)/\i<=aaK a6/\acw a6 (λx=>decide (x=v))=acw (List.drop i a6) (λx=>decide (x=v)))/\m=aaK a6 - i) _ [.up 2] [1,2,5] [2] _ rfl (by cbv) ⟨0,0,rfl,?_,rfl⟩ (λσ m hI=>?_)
 ·
  exact⟨rfl,aaW _,rfl⟩
 obtain⟨i,n,rfl,⟨hn,hi,hE⟩,rfl⟩:=hI;refine gs (gx hA 5 ?_);refine gc (λc1=>?_) (λc1=>?_)
 ·
  have aV:n < (A.ao b3):=aP hA c1;refine gk (gs (af (gs (gr (rn hA 3 ?_)))));obtain⟨e1,f1,x2,cX,f0⟩:=ga a6 n (by omega) (by omega);have d9:b3[(aaO n)]? =some [.ii x2]:=by
   exact bC bq b6 cX
  have b7:=cX;rw[hn] at b7;have b7:(a6)[i]? =some x2:=b7;refine ee e1 d9 ?_;refine rz hA 3 ?_;refine gc (λc3=>?_) (λc3=>?_)
  ·
   have cI:x2=v:=eE hA c3;refine gx hA 1 ?_;refine rt (gt ?_);refine congrArg PV.bool ?_;show acw a6 (λx=>decide (x=v))=_;rw[hE,AY b7];simp[aV,cI]
  have cI:x2≠v:=eF hA c3;refine gk (gy hA 3 ?_);refine⟨_,_,?_,by cbv,i+1,(A.num .add .i64 n 1),rfl,?_,rfl⟩
  ·
   omega
  refine⟨by rw[au hA (by omega) (by omega)];omega,by omega,?_⟩;rw[hE,AY b7];simp[aV,cI,cI.symm]
 have aV:(A.ao b3)<=n:=aQ hA c1;refine aI (gE ?_);refine gx hA 1 ?_;refine rt (gt ?_);refine congrArg PV.bool ?_;show acw a6 (λx=>decide (x=v))=_;rw[hE,List.drop_of_length_le (by omega)];rfl
def Xd (p0:Int)(p1 p2:RR)(p3:Int)(p4:RR)(p5 p6 p7 p8:Int)(p9 fj:RR):St:={sl:=.aa::.pt 1 0 0::.aa::.own 5::.ii p0::BL,bl:=[(1,⟨.var,9,[[.sl 1 p1,.sl 2 p2,.ii p3,.sl 4 p4,.ii p5,.ii p6,.ii p7,.ii p8,.sl 1 p9]]⟩),(5,⟨.arr,9,fj⟩)]}
theorem GX (A:ax)(hA:A=aj)(x:aK)(hz:∀ q∈fK x,q<=1048576)(hil:(bm x.Log.Used).length<=1048576):al 159 [.agg (iv x)] (.ow 9 (aaN da (gI x.cW x.Log.Used))):=by
 obtain⟨⟨⟨a5,a9⟩,b1,a0,a7,a8,b0,a3⟩,a6⟩:=x;obtain⟨a1,b2,c0⟩:=nr hA ah a5;obtain⟨a4,b4,c7⟩:=nr hA bn a9;obtain⟨a2,b5,d3⟩:=nr hA cA a0;obtain⟨b3,b6,d5⟩:=nr hA bq a6;refine ak (az:=[.agg [.sl 1 a1,.sl 2 a4,.ii b1,.sl 4 a2,.ii a7,.ii a8,.ii b0,.ii a3,.sl 1 b3]]) (by subst b2 b4 b5 b6;rfl) ?_;have e0:∀ q∈fg (⟨⟨a5,a9⟩,b1,a0,a7,a8,b0,a3⟩:bF),q<=1048576:=λq hq=>hz q (by simp only[fK,aaV];simp only[hq,true_or,or_true]);have d1:∀ q∈db (⟨a5,a9⟩:bj),q<=1048576:=λq hq=>e0 q (by simp only[fg,aaV];simp only[hq,true_or,or_true]);have c9:∀ q∈bR a5,q<=1048576:=λq hq=>d1 q (by simp only[db,aaV];simp only[hq,true_or,or_true]);have d6:aaK a5<=1048576:=c9 _ (by simp[bR]);have d0:∀ q∈dX a9,q<=1048576:=λq hq=>d1 q (by simp only[db,aaV];simp only[hq,true_or,or_true]);have e2:aaK a9<=1048576:=d0 _ (by simp[dX]);have d2:∀ q∈gl a0,q<=1048576:=λq hq=>e0 q (by simp only[fg,aaV];simp only[hq,true_or,or_true]);have e7:aaK a0<=1048576:=d2 _ (by simp[gl]);have e3:∀ q∈jS a6,q<=1048576:=λq hq=>hz q (by simp only[fK,aaV];simp only[hq,true_or,or_true]);have e9:aaK a6<=1048576:=e3 _ (by simp[jS]);have hil:(bm a0).length<=1048576:=hil;have hzs:=Bj d2 hil;have hzk:∀ q∈il (gI a6 a0),q<=1048576:=UZ hzs;have hki:=wW a6 a0;refine aY Tryz.func159 ?_;refine gx hA 2 ?_;refine gx hA 2 ?_;refine gs (gx hA 1 ?_);refine af ?_;refine aF (λσ m=>∃(i:Nat) (n:Int) (R:RR),σ=(Xd n a1 a4 b1 a2 a7 a8 b0 a3 b3 R)/\(n=(i:Int)/\i<=aaK a0/\R=aaN da (gI a6 (a0.take i)))/\m=aaK a0 - i) _ [.up 5,.up 1] [1,3,4] [1,5] _ rfl (by cbv) ⟨0,0,[],rfl,?_,rfl⟩ (λσ m hI=>?_)
 ·
  exact⟨rfl,aaW _,rfl⟩
 obtain⟨i,n,R,rfl,⟨hn,hi,hR⟩,rfl⟩:=hI;refine gs (gx hA 6 ?_);refine gc (λc1=>?_) (λc1=>?_)
 ·
  have aV:n < (A.ao a2):=aP hA c1;refine gk (gs (af (gs ?_)));refine cz [0,1,2,3,4,5,6,7,8,9] (by cbv) ?_;refine bL hA 5 ?_;obtain⟨e1,f1,x2,cX,f0⟩:=ga a0 n (by omega) (by omega);obtain⟨c4,d7,d8,c2⟩:=x2;obtain⟨b8,b9,e8⟩:=nr hA aW c2;have d9:a2[(aaO n)]? =some [.ii c4,.ii d7,.ii d8,.sl 9 b8]:=by
   subst b9;exact bC cA b5 cX
  have b7:=cX;rw[hn] at b7;have b7:(a0)[i]? =some (⟨c4,d7,d8,c2⟩:bu):=b7;refine ob e1 d9 ?_;refine bL hA 2 ?_;obtain⟨f2,e5,cL⟩:=kV (C3 a6 c4) (Fv A hA (⟨⟨⟨a5,a9⟩,b1,a0,a7,a8,b0,a3⟩,a6⟩:aK) c4 (by assumption));refine eQ cL (.inr rfl) ?_ (hv:=by subst b2 b4 b5 b6;rfl);refine dz hA 1 ?_;refine gc (λc5=>?_) (λc5=>?_)
  ·
   have c6:f2=false:=ck hA c5;refine gr (rn hA 5 ?_);refine ee e1 d9 ?_;refine rn hA 2 ?_;obtain⟨r7,kt⟩:=nm (R++b8:RR);have vH:r7=aaN da ((gI a6 (a0.take i))++c2):=by rw[kt];exact cM hR b9
   have TV:=ab hA vH;refine ju kt ?_ (hl:=by
    show(aaK R+aaK b8) * _<=_;have h1:=QT b7 (show C3 a6 c4=false by rw[<- e5,c6]);have h1:(gI a6 (a0.take i)).length+aaK c2<=(gI a6 a0).length:=h1;show(aaK R+aaK b8) * 96<=_;rw[hR,b9,aaS,aaS];omega)
   refine rz hA 1 ?_;refine gy hA 3 ?_;refine⟨_,_,?_,by cbv,i+1,(A.num .add .i64 n 1),r7,rfl,?_,rfl⟩
   ·
    omega
   refine⟨by rw[au hA (by omega) (by omega)];omega,by omega,?_⟩;rw[DO b7,if_neg (by show ¬ (C3 a6 c4=true);rw[<- e5,c6];decide)];exact vH
  have c8:f2=true:=cm hA c5;refine gk (gy hA 3 ?_);refine⟨_,_,?_,by cbv,i+1,(A.num .add .i64 n 1),R,rfl,?_,rfl⟩
  ·
   omega
  refine⟨by rw[au hA (by omega) (by omega)];omega,by omega,?_⟩;rw[DO b7,if_pos (by show C3 a6 c4=true;rw[<- e5,c8])];exact hR
 have aV:(A.ao a2)<=n:=aQ hA c1;refine aI (gE ?_);refine gx hA 2 ?_;refine rt (gt ?_);refine congrArg (PV.ow 9) ?_;rw[hR,List.take_of_length_le (by omega)]
def Yq (p0:Int)(p1 p2:RR)(p3:Int)(p4:RR)(p5 p6 p7 p8:Int)(p9:RR):St:={sl:=.aa::.pt 1 0 0::.aa::.ii p0::YN,bl:=[(1,⟨.var,9,[[.sl 1 p1,.sl 2 p2,.ii p3,.sl 4 p4,.ii p5,.ii p6,.ii p7,.ii p8,.sl 1 p9]]⟩)]}
theorem Hm (A:ax)(hA:A=aj)(x:aK)(N:Int)(L:List aT)(hx:iQ A x N L):al 102 [.agg (iv x)] (.bool true):=by
 obtain⟨⟨⟨a0,a1⟩,a9,a3,a5,a4,a8,a2⟩,b2⟩:=x;obtain⟨b0,a6,c5⟩:=nr hA ah a0;obtain⟨b3,a7,c6⟩:=nr hA bn a1;obtain⟨b8,b1,d2⟩:=nr hA cA a3;obtain⟨b4,b7,d6⟩:=nr hA bq b2;refine ak (az:=[.agg [.sl 1 b0,.sl 2 b3,.ii a9,.sl 4 b8,.ii a5,.ii a4,.ii a8,.ii a2,.sl 1 b4]]) (by subst a6 a7 b1 b7;rfl) ?_;have hzs:=hx.zs;obtain⟨h,hf⟩:=hx;have hx:iQ A (⟨⟨⟨a0,a1⟩,a9,a3,a5,a4,a8,a2⟩,b2⟩:aK) N L:=⟨h,hf⟩;have hf:b2=[]:=hf;have hlog:=h;obtain⟨n5,jq,gd,l3,dk,ca,ln,sg,us,lng,lns,lsp,lnv,tx⟩:=h;have oE:eM ⟨a0,a1⟩:=dk;have ca:a1=[]:=ca;have ln:(aaK a0:Int)=8+N * 8:=ln;have sg:a9=N:=sg;have us:a3=[fB L]:=us;have lng:a5=2:=lng;have lns:a4=(aaK L:Int)+1:=lns;have lsp:a8=1:=lsp;have lnv:a2=(aaK L:Int)+1:=lnv;have uT:aaK a3=1:=by rw[us];rfl
 have lca:aaK a1=0:=by rw[ca];rfl
 have hil:=hlog.len;have hzl:=hlog.zs;have hit:bm a3=bx L:=hlog.items;have hib:aaK (bx L)=aaK L:=aaS ..;have hend:=hlog.end_;have hilx:(bm a3).length<=1048576:=hil;have lff:aaK b2=0:=by rw[hf];rfl
 refine aY Tryz.func102 ?_;refine gx hA 2 ?_;refine gs (gs (gr (rn hA 2 ?_)));have aJ:=BB A hA (⟨⟨a0,a1⟩,a9,a3,a5,a4,a8,a2⟩:bF) N L hlog;refine aH aJ (.inr rfl) ?_ (hv:=by subst a6 a7 b1;rfl);refine rn hA 2 ?_;refine ag 10 rfl (λc3=>?_) (λc3=>?_)
 ·
  exact ay c3 (by subst hA;rfl)
 refine rn hA 1 ?_;obtain⟨c4,c0,eu⟩:=tE (aaN eA L) (lj A hA (⟨⟨⟨a0,a1⟩,a9,a3,a5,a4,a8,a2⟩,b2⟩:aK) N L hx);have d5:=ab hA c0;refine fC eu (.inr rfl) ?_ (hv:=by subst a6 a7 b1 b7;rfl);have fq:al 157 [.agg [.sl 5 (ar c4)]] (.bool true):=by subst c0;simp only[je];exact Hl A hA (⟨L⟩:cY) gd
 refine fC fq (.inl trivial) ?_;refine rz hA 2 ?_;refine gc (λc8=>?_) (λc8=>?_)
 ·
  exact ay c8 (by subst hA;rfl)
 refine gk (gs (gx hA 1 ?_));refine af ?_;refine aF (λσ m=>∃(n:Int),σ=(Yq n b0 b3 a9 b8 a5 a4 a8 a2 b4)/\(n=0)/\m=0) _ [] [1,3] [1] _ rfl (by cbv) ⟨0,rfl,?_,rfl⟩ (λσ m hI=>?_)
 ·
  exact rfl
 obtain⟨n,rfl,hn,rfl⟩:=hI;refine gs (gx hA 5 ?_);refine gc (λc9=>?_) (λc9=>?_)
 ·
  have po:n < (A.ao b4):=aP hA c9;exfalso;omega
 have po:(A.ao b4)<=n:=aQ hA c9;refine aI (gE ?_);refine gs ?_;refine cz [0,1,2,3,4,5,6] (by cbv) ?_;refine bL hA 1 ?_;obtain⟨c7,c2,e0⟩:=qL (aaN da (gI b2 a3)) (GX A hA (⟨⟨⟨a0,a1⟩,a9,a3,a5,a4,a8,a2⟩,b2⟩:aK) hzs hil);have e2:=ab hA c2;have d9:A.ao (ar c7)=(aaK (gI b2 a3):Int):=ab hA (by rw[c2];exact kj _);refine eQ e0 (.inr rfl) ?_ (hv:=by subst a6 a7 b1 b7;rfl);obtain⟨c1,b5,d8⟩:=AW [.sl 9 (ar c7)] (aaN eA L) (by subst c2;simp only[kj];exact FN A hA (gI b2 a3) L (by rw[hf,QR];exact hit) gd);have d3:=ab hA b5;have d0:A.ao (ar c1)=(aaK L:Int):=ab hA (by rw[b5];exact je _);refine eQ d8 (.inr rfl) ?_;refine bL hA 1 ?_;obtain⟨b9,b6,d7⟩:=tE (aaN eA L) (lj A hA (⟨⟨⟨a0,a1⟩,a9,a3,a5,a4,a8,a2⟩,b2⟩:aK) N L hx);have d4:=ab hA b6;have d1:A.ao (ar b9)=(aaK L:Int):=ab hA (by rw[b6];exact je _);refine eQ d7 (.inr rfl) ?_ (hv:=by subst a6 a7 b1 b7;rfl);have e1:al 158 [.agg [.sl 5 (ar c1)],.agg [.sl 5 (ar b9)]] (.bool true):=by subst b5 b6;simp only[je];exact D6 A hA (⟨L⟩:cY) gd
 refine eQ e1 (.inr rfl) ?_;refine dz hA 1 ?_;refine rt (gt ?_);show _=(PV.bool true);rfl
def ll (A:ax)(x:aK)(L:List aT)(u:ByteArray):aK:=⟨lf A x.Log L u,[]⟩
theorem iQ.add {A:ax}(hA:A=aj){x:aK}{n:Int}{L:List aT}(h:iQ A x n L)(hl:L.length<=2){u:ByteArray}(hm:dN L ((L.length:Int)+1) u=true):iQ A (ll A x L u) n (L++[dW ((L.length:Int)+1) u]):=⟨h.lg.add hA hl hm,rfl⟩
theorem LX {L:List aT}{nv:Int}{u:ByteArray}(h:dN L nv u=true):kE L nv u=true:=by unfold dN at h;rw[aaR] at h;exact h.2
def mP (A:ax)(x:aK)(L:List aT)(u:ByteArray):aK:=if dN L ((L.length:Int)+1) u=true then ll A x L u else x
def BE (L:List aT)(u:ByteArray):Int:=if dN L ((L.length:Int)+1) u=true then 0 else 1
def jz (A:ax)(x:aK)(L:List aT)(u:ByteArray):aK:=if hasB L u cG=true then x else mP A x L u
def tj (L:List aT)(u:ByteArray):Int:=if hasB L u cG=true then 0 else BE L u
theorem FO (A:ax)(hA:A=aj)(n:Int)(L:List aT)(u:ByteArray)(nv:Int)(gd:gD L)(kL:L.length<=2)(hm:dN L ((L.length:Int)+1) u=true)(hn:n=nv/\nv=(L.length:Int)+1):al 132 [.agg (jn ⟨L⟩),.ii n,.agg [.ii 1,.ii nv,.ii 0,.ii 1,.ii 0,.str u,.str (aaP #[105,110,98,111,120]),.str aaM]] (.bool true):=by
 obtain⟨rfl,hn⟩:=hn;have hr:=xt A hA ⟨L⟩ n u (by have:=fV (mH hm);omega) (rM gd);rw[show kE (cY.fF ⟨L⟩) n u=true from LX (by rw[hn];exact hm)] at hr;exact hr
theorem FP (A:ax)(hA:A=aj)(n:Int)(L:List aT)(u:ByteArray)(nv:Int)(gd:gD L)(kL:L.length<=2)(hm:dN L ((L.length:Int)+1) u=true)(hn:n=nv/\nv=(L.length:Int)+1):al 99 [.agg (jn ⟨L⟩),.ii n,.agg [.ii 1,.ii nv,.ii 0,.ii 1,.ii 0,.str u,.str (aaP #[105,110,98,111,120]),.str aaM]] (.bool true):=by
 obtain⟨rfl,hn⟩:=hn;have hr:=xu A hA ⟨L⟩ n u (by have:=fV (mH hm);omega) (rM gd);rw[show kE (cY.fF ⟨L⟩) n u=true from LX (by rw[hn];exact hm)] at hr;exact hr
theorem LY (A:ax)(hA:A=aj)(x:aK)(N:Int)(L:List aT)(hx:iQ A x N L)(u:ByteArray)(nv:Int)(kL:L.length<=2)(hm:dN L ((L.length:Int)+1) u=true)(hnv:nv=(L.length:Int)+1):al 72 [.agg (iv x),.agg [.ii 1,.ii nv,.ii 0,.ii 1,.ii 0,.str u,.str (aaP #[105,110,98,111,120]),.str aaM]] (.aw [.agg (kP (ll A x L u)),.ii 0]):=by
 obtain⟨⟨⟨a0,a1⟩,a7,a5,a3,a4,a6,a2⟩,b2⟩:=x;obtain⟨b7,a8,d6⟩:=nr hA ah a0;obtain⟨b9,a9,d8⟩:=nr hA bn a1;obtain⟨d4,b4,e2⟩:=nr hA cA a5;obtain⟨e0,b6,e6⟩:=nr hA bq b2;refine ak (az:=[.agg [.sl 1 b7,.sl 2 b9,.ii a7,.sl 4 d4,.ii a3,.ii a4,.ii a6,.ii a2,.sl 1 e0],.agg [.ii 1,.ii nv,.ii 0,.ii 1,.ii 0,.str u,.str (aaP #[105,110,98,111,120]),.str aaM]]) (by subst a8 a9 b4 b6;rfl) ?_;have hzs:=hx.zs;obtain⟨h,hf⟩:=hx;have hx:iQ A (⟨⟨⟨a0,a1⟩,a7,a5,a3,a4,a6,a2⟩,b2⟩:aK) N L:=⟨h,hf⟩;have hf:b2=[]:=hf;have hlog:=h;obtain⟨n5,jq,gd,l3,dk,ca,ln,sg,us,lng,lns,lsp,lnv,tx⟩:=h;have oE:eM ⟨a0,a1⟩:=dk;have ca:a1=[]:=ca;have ln:(aaK a0:Int)=8+N * 8:=ln;have sg:a7=N:=sg;have us:a5=[fB L]:=us;have lng:a3=2:=lng;have lns:a4=(aaK L:Int)+1:=lns;have lsp:a6=1:=lsp;have lnv:a2=(aaK L:Int)+1:=lnv;have uT:aaK a5=1:=by rw[us];rfl
 have lca:aaK a1=0:=by rw[ca];rfl
 have hil:=hlog.len;have hzl:=hlog.zs;have hit:bm a5=bx L:=hlog.items;have hib:aaK (bx L)=aaK L:=aaS ..;have hend:=hlog.end_;have hilx:(bm a5).length<=1048576:=hil;have lff:aaK b2=0:=by rw[hf];rfl
 refine aY Tryz.func72 ?_;refine gx hA 4 ?_;refine gs (gs ?_);refine cz [0,1,2,3,4,5,6,7] (by cbv) ?_;refine bL hA 1 ?_;obtain⟨c9,b3,aJ⟩:=tE (aaN eA L) (pQ A hA (⟨⟨⟨a0,a1⟩,a7,a5,a3,a4,a6,a2⟩,b2⟩:aK) N L hx);have e5:=ab hA b3;have e4:A.ao (ar c9)=(aaK L:Int):=ab hA (by rw[b3];exact je _);refine eQ aJ (.inr rfl) ?_ (hv:=by subst a8 a9 b4 b6;rfl);refine bL hA 4 ?_;have cL:al 132 [.agg [.sl 5 (ar c9)],.ii a2,.agg [.ii 1,.ii nv,.ii 0,.ii 1,.ii 0,.str u,.str (aaP #[105,110,98,111,120]),.str aaM]] (.bool true):=by subst b3;simp only[je];exact FO A hA a2 L u nv gd kL hm ⟨by omega,hnv⟩
 refine eQ cL (.inr rfl) ?_;refine dz hA 1 ?_;refine gc (λc5=>?_) (λc5=>?_)
 ·
  exact ay c5 (by subst hA;rfl)
 refine gk (gs (gr (rn hA 3 ?_)));obtain⟨b5,c1,d5,d3,c7,c6,d2,c2,b0,b1,d1,b8,c4,c3,d0,c0,fq⟩:=Uk (aaN ah (((lf A (⟨⟨a0,a1⟩,a7,a5,a3,a4,a6,a2⟩:bF) L u).ba).aD)) (aaN aU (((lf A (⟨⟨a0,a1⟩,a7,a5,a3,a4,a6,a2⟩:bF) L u).ba).Cache)) ((lf A (⟨⟨a0,a1⟩,a7,a5,a3,a4,a6,a2⟩:bF) L u).ld) (aaN bW ((lf A (⟨⟨a0,a1⟩,a7,a5,a3,a4,a6,a2⟩:bF) L u).Used)) ((lf A (⟨⟨a0,a1⟩,a7,a5,a3,a4,a6,a2⟩:bF) L u).dZ) ((lf A (⟨⟨a0,a1⟩,a7,a5,a3,a4,a6,a2⟩:bF) L u).ea) ((lf A (⟨⟨a0,a1⟩,a7,a5,a3,a4,a6,a2⟩:bF) L u).fv) ((lf A (⟨⟨a0,a1⟩,a7,a5,a3,a4,a6,a2⟩:bF) L u).cT) true (D7 A hA (⟨⟨a0,a1⟩,a7,a5,a3,a4,a6,a2⟩:bF) N L hlog u nv kL hm hnv);have d7:=ab hA b0;have d9:=ab hA b1;have e3:=ab hA b8;refine aH fq (.inr rfl) ?_ (hv:=by subst a8 a9 b4;rfl);refine rz hA 6 ?_;refine gs (gx hA 2 ?_);refine gc (λc8=>?_) (λc8=>?_)
 ·
  exact ay c8 (by subst hA;rfl)
 refine gk (gs ?_);refine cR [0,1,2,3,4,5,6] (by cbv) ?_;refine cH hA 3 ?_;obtain⟨e7,e1,e8⟩:=xq (CV A hA b2 (by show aaK b2<=1048576;omega));have e9:=ab hA e1;refine nc e8 (.inr rfl) ?_ (hv:=by subst b6;rfl);refine cH hA 3 ?_;refine cS (by cbv) ?_;refine rt (gt ?_);show _=PV.aw [.agg [.ow 1 b5,.ow 2 c1,.ii d5,.ow 4 d3,.ii c7,.ii c6,.ii d2,.ii c2,.ow 1 e7],.ii 0];simp only[b0,b1,b8,e1,b3,d1,c4,c3,d0,c0,abv,hf];rfl
theorem Vg (A:ax)(hA:A=aj)(S:List ByteArray)(N:Int)(L:List aT)(u:ByteArray)(nv:Int)(h:gV A (⟨⟨S,[]⟩,N,[fB L],2,nv,1,nv⟩:bF) N L)(kL:L.length<=2)(hm:dN L ((L.length:Int)+1) u=true)(hnv:nv=(L.length:Int)+1):rY 107 [.ow 1 (aaN ah (S)),.ow 2 (aaN aU ([]:List br)),.ii N,.ow 4 (aaN bW ([fB L])),.ii 2,.ii nv,.ii 1,.ii nv,.ow 1 (aaN bq ([]:List Int))] [.agg [.ii 1,.ii nv,.ii 0,.ii 1,.ii 0,.str u,.str (aaP #[105,110,98,111,120]),.str aaM]] [.ow 1 (aaN ah (fl S (wr S 8 (eg L) (oy A (dW ((L.length:Int)+1) u))))),.ow 2 (aaN aU ([]:List br)),.ii N,.ow 4 (aaN bW ([fB (L++[(dW ((L.length:Int)+1) u)])])),.ii 2,.ii (nv+1),.ii 1,.ii (nv+1),.ow 1 (aaN bq ([]:List Int))] (.ii 0):=by
 obtain⟨rs,hrs⟩:=nm (aaN ah (S));have lrs:=ab hA hrs;obtain⟨rc,hrc⟩:=nm (aaN aU ([]:List br));have lrc:=ab hA hrc;obtain⟨ru,hru⟩:=nm (aaN bW ([fB L]));have lru:=ab hA hru;obtain⟨rf,hrf⟩:=nm (aaN bq ([]:List Int));have lrf:=ab hA hrf;refine yk (Mw:=[.ow 1 rs,.ow 2 rc,.ii N,.ow 4 ru,.ii 2,.ii nv,.ii 1,.ii nv,.ow 1 rf]) (by subst hrs hrc hru hrf;rfl) rfl rfl ?_;have hlog:=h;obtain⟨n5,jq,gd,l3,dk,ca,ln,sg,us,lng,lns,lsp,lnv,tx⟩:=h;have vd:eM ⟨S,[]⟩:=dk;have ln:(aaK S:Int)=8+N * 8:=ln;have hib:aaK (bx L)=aaK L:=aaS ..;have hend:=hlog.end_;have hL:=uR gd;have hxs:iQ A (⟨⟨⟨S,[]⟩,N,[fB L],2,nv,1,nv⟩,[]⟩:aK) N L:=⟨hlog,rfl⟩;refine EI nQ Tryz.func107 (by kernel_rfl) (uk rfl (by cbv) (by cbv) (λhv=>?_));refine gx hA 2 ?_;refine gs (gs ?_);refine cz [0,1,2,3,4,5,6,7,8,9,10,11] (by cbv) ?_;refine bL hA 3 ?_;obtain⟨d1,b4,aJ⟩:=AW [.agg [.sl 1 (ar rs),.sl 2 (ar rc),.ii N,.sl 4 (ar ru),.ii 2,.ii nv,.ii 1,.ii nv,.sl 1 (ar rf)]] (aaN eA L) (by subst hrs hrc hru hrf;simp only[js,im,bS,cE];exact lj A hA (⟨⟨⟨(S),([]:List br)⟩,N,([fB L]),2,nv,1,nv⟩,([]:List Int)⟩:aK) N L hxs);have e9:=ab hA b4;have e7:A.ao (ar d1)=(aaK L:Int):=ab hA (by rw[b4];exact je _);refine eQ aJ (.inl (by simp only[fresh,cj,b4,B4,and_self])) ?_;refine bL hA 6 ?_;have cL:al 99 [.agg [.sl 5 (ar d1)],.ii nv,.agg [.ii 1,.ii nv,.ii 0,.ii 1,.ii 0,.str u,.str (aaP #[105,110,98,111,120]),.str aaM]] (.bool true):=by subst b4;simp only[je];exact FP A hA nv L u nv gd kL hm ⟨by omega,hnv⟩
 refine eQ cL (.inr rfl) ?_;refine dz hA 1 ?_;refine gc (λc5=>?_) (λc5=>?_)
 ·
  exact ay c5 (by subst hA;rfl)
 refine gk (gs (gr (rn hA 4 ?_)));obtain⟨b9,c3,d3,c1,c4,a3,a6,b6,b5,b7,fq⟩:=X1 [.agg [.sl 1 (ar rs),.sl 2 (ar rc),.ii N,.sl 4 (ar ru),.ii 2,.ii nv,.ii 1,.ii nv]] (aaN ah (S)) (aaN aU ([]:List br)) (aaN bW ([fB L])) 2 1 N nv nv (by subst hrs hrc hru;simp only[im,bS,cE];exact xv A hA (⟨⟨(S),([]:List br)⟩,N,([fB L]),2,nv,1,nv⟩:bF) hlog.zs);have e2:=ab hA a3;have e4:=ab hA a6;have f1:=ab hA b6;refine aH fq (.inl (by simp only[fresh,cj,a3,a6,b6,b5,b7,nA,dy,ev,and_self])) ?_;refine rz hA 2 ?_;refine gx hA 6 ?_;refine gs (gs (gr (rn hA 2 ?_)));have kA:al 163 [.agg [.sl 1 (ar b9),.sl 2 (ar c3),.ii N,.sl 4 (ar d3),.ii c1,.ii nv,.ii c4,.ii nv],.agg [.ii nv,.ii 1,.ii nv,.ii 0,.ii 1,.ii 0,.str u,.str (aaP #[105,110,98,111,120]),.str aaM]] (.bool true):=by subst a3 a6 b6;simp only[im,bS,cE];exact Hk A hA (⟨⟨(S),([]:List br)⟩,N,([fB L]),c1,nv,c4,nv⟩:bF) N L (by subst b5 b7;exact hlog) u nv kL hm hnv
 refine aH kA (.inl trivial) ?_;refine rn hA 2 ?_;refine ag 32 rfl (λcB=>?_) (λcB=>?_)
 ·
  exact ay cB (by subst hA;rfl)
 refine rn hA 1 ?_;obtain⟨zL,Yr,IL,Ys,Ug,d5,e8,f0,f5,f4,f6⟩:∃(zL Yr IL:RR) (Ys Ug:Int),zL=aaN ah (fl S (wr S 8 (eg L) (oy A (dW ((L.length:Int)+1) u))))/\Yr=aaN aU ([]:List br)/\IL=aaN bW ([fB (L++[(dW ((L.length:Int)+1) u)])])/\Ys=(nv+1)/\Ug=(nv+1)/\rY 164 [.ow 1 b9,.ow 2 c3,.ii N,.ow 4 d3,.ii c1,.ii nv,.ii c4,.ii nv] [.agg [.ii nv,.ii 1,.ii nv,.ii 0,.ii 1,.ii 0,.str u,.str (aaP #[105,110,98,111,120]),.str aaM],.ii 2] [.ow 1 zL,.ow 2 Yr,.ii N,.ow 4 IL,.ii 2,.ii Ys,.ii 1,.ii Ug] (.bool true):=⟨_,_,_,_,_,rfl,rfl,rfl,rfl,rfl,by subst a3 a6 b6 b5 b7;exact Mq A hA S N L u nv hlog kL hm hnv⟩;refine PG 9300000 rfl rfl rfl (by cbv) rfl (by cbv) rfl (by cbv) f6 rfl rfl (by cbv) ?_;have f7:=ab hA d5;have g0:=ab hA e8;have g1:=ab hA f0;refine rz hA 2 ?_;refine gc (λgG=>?_) (λgG=>?_)
 ·
  exact ay gG (by subst hA;rfl)
 refine gk (gx hA 5 ?_);refine gx hA 1 ?_;refine kT (xh rfl rfl (by cbv) rfl (by cbv) ?_ ?_)
 ·
  simp only[d5,e8,f0,hrf,b4,a3,a6,b6,b5,b7,f5,f4]
  try rfl
 rfl
theorem LZ (A:ax)(hA:A=aj)(x:aK)(N:Int)(L:List aT)(hx:iQ A x N L)(u:ByteArray)(nv:Int)(kL:L.length<=2)(hm:dN L ((L.length:Int)+1) u=true)(hnv:nv=(L.length:Int)+1):al 58 [.agg (iv x),.agg [.ii 1,.ii nv,.ii 0,.ii 1,.ii 0,.str u,.str (aaP #[105,110,98,111,120]),.str aaM]] (.aw [.agg (kP (ll A x L u)),.ii 0]):=by
 obtain⟨⟨⟨a0,a1⟩,b1,a7,a5,a4,a9,a2⟩,c2⟩:=x;obtain⟨c8,b0,d8⟩:=nr hA ah a0;obtain⟨d0,b3,e1⟩:=nr hA bn a1;obtain⟨d6,c0,e6⟩:=nr hA cA a7;obtain⟨e3,d2,f3⟩:=nr hA bq c2;refine ak (az:=[.agg [.sl 1 c8,.sl 2 d0,.ii b1,.sl 4 d6,.ii a5,.ii a4,.ii a9,.ii a2,.sl 1 e3],.agg [.ii 1,.ii nv,.ii 0,.ii 1,.ii 0,.str u,.str (aaP #[105,110,98,111,120]),.str aaM]]) (by subst b0 b3 c0 d2;rfl) ?_;have hzs:=hx.zs;obtain⟨h,hf⟩:=hx;have hx:iQ A (⟨⟨⟨a0,a1⟩,b1,a7,a5,a4,a9,a2⟩,c2⟩:aK) N L:=⟨h,hf⟩;have hf:c2=[]:=hf;have hlog:=h;obtain⟨n5,jq,gd,l3,dk,ca,ln,sg,us,lng,lns,lsp,lnv,tx⟩:=h;have oE:eM ⟨a0,a1⟩:=dk;have ca:a1=[]:=ca;have ln:(aaK a0:Int)=8+N * 8:=ln;have sg:b1=N:=sg;have us:a7=[fB L]:=us;have lng:a5=2:=lng;have lns:a4=(aaK L:Int)+1:=lns;have lsp:a9=1:=lsp;have lnv:a2=(aaK L:Int)+1:=lnv;have uT:aaK a7=1:=by rw[us];rfl
 have lca:aaK a1=0:=by rw[ca];rfl
 have hil:=hlog.len;have hzl:=hlog.zs;have hit:bm a7=bx L:=hlog.items;have hib:aaK (bx L)=aaK L:=aaS ..;have hend:=hlog.end_;have hilx:(bm a7).length<=1048576:=hil;have lff:aaK c2=0:=by rw[hf];rfl
 refine aY Tryz.func58 ?_;refine gx hA 4 ?_;refine gs (gr (rn hA 1 ?_));obtain⟨c7,c9,d4,e0,a8,b2,b8,c6,aJ⟩:=tM (aaN ah a0) (aaN aU a1) (aaN bW a7) (aaN bq c2) b1 a5 a4 a9 a2 (mr A hA (⟨⟨⟨a0,a1⟩,b1,a7,a5,a4,a9,a2⟩,c2⟩:aK) hzs);have d7:=ab hA a8;have d9:=ab hA b2;have e5:=ab hA b8;have f2:=ab hA c6;refine aH aJ (.inr rfl) ?_ (hv:=by subst b0 b3 c0 d2;rfl);refine rz hA 2 ?_;refine gs (gs (gr (rn hA 2 ?_)));have cL:=BB A hA (⟨⟨a0,a1⟩,b1,a7,a5,a4,a9,a2⟩:bF) N L hlog;refine aH cL (.inr rfl) ?_ (hv:=by subst b0 b3 c0;rfl);refine rz hA 1 ?_;refine gc (λc5=>?_) (λc5=>?_)
 ·
  exact ay c5 (by subst hA;rfl)
 refine gk (gs (gr (rn hA 1 ?_)));obtain⟨w6,w7,w8,w9,C9,zL,hw6,XT,NA,zI,f8,d5,f9⟩:∃(w6 w7 w8:RR) (w9 C9:Int) (zL:RR),w6=aaN ah (fl a0 (wr a0 8 (eg L) (oy A (dW ((L.length:Int)+1) u))))/\w7=aaN aU ([]:List br)/\w8=aaN bW ([fB (L++[(dW ((L.length:Int)+1) u)])])/\w9=(nv+1)/\C9=(nv+1)/\zL=aaN bq ([]:List Int)/\rY 107 [.ow 1 c7,.ow 2 c9,.ii b1,.ow 4 d4,.ii a5,.ii a4,.ii a9,.ii a2,.ow 1 e0] [.agg [.ii 1,.ii nv,.ii 0,.ii 1,.ii 0,.str u,.str (aaP #[105,110,98,111,120]),.str aaM]] [.ow 1 w6,.ow 2 w7,.ii N,.ow 4 w8,.ii 2,.ii w9,.ii 1,.ii C9,.ow 1 zL] (.ii 0):=⟨_,_,_,_,_,_,rfl,rfl,rfl,rfl,rfl,rfl,by subst a8 b2 b8 c6;rw[sg,us,ca,lng,lns.trans hnv.symm,lsp,lnv.trans hnv.symm,hf];exact Vg A hA a0 N L u nv (by have hq:=hlog;rw[sg,us,ca,lng,lns,lsp,lnv,<- hnv] at hq;exact hq) kL hm hnv⟩;refine nY 9400000 rfl (by cbv) rfl (by cbv) rfl (by cbv) f9 rfl rfl (by cbv) ?_;have lw6:=ab hA hw6;have lw7:=ab hA XT;have lw8:=ab hA NA;have f7:=ab hA d5;refine rz hA 1 ?_;refine gx hA 4 ?_;refine rt (gt ?_);show _=PV.aw [.agg [.ow 1 w6,.ow 2 w7,.ii N,.ow 4 w8,.ii 2,.ii w9,.ii 1,.ii C9,.ow 1 zL],.ii 0];simp only[hw6,XT,NA,d5,a8,b2,b8,c6,zI,f8,ll,lf];rw[sg,hnv,show(aaK L:Int)+1+1=(aaK L:Int)+2 by omega];rfl
theorem Pq (A:ax)(hA:A=aj)(nv:Int)(u:ByteArray)(h1:1<=nv)(h9:nv<=9)(hw:dw u=true):al 126 [.agg [.ii 1000000000,.ii 1,.ii nv,.ii 0,.ii 1,.ii 0,.str u,.str (aaP #[105,110,98,111,120]),.str aaM],.ii 1000000000] (.aw [.agg (dM (⟨1000000000,1000000000,dB A (cn A) (cF nv u)⟩:aC)),.bool true]):=by
 have hz:=fV hw;have h0:aaM.size=0:=rfl;have h5:cG.size=5:=rfl;have hr:=uX A hA ⟨1000000000,cF nv u⟩ 1000000000 (by intro q hq;simp[pw,eH,cF] at hq;rcases hq with rfl | rfl | rfl<;>omega);have hs:=sw (A:=A) hA (iP hA) h1 h9 hw;have e:kX A (cn A) ⟨1000000000,cF nv u⟩ 1000000000=true:=by
  unfold kX cU mG;rw[show bH (cF nv u)=true from tW h1 (by omega) hw];simp only[dm,ab5,aaR,decide_eq_true_eq];rw[show(dB A (cn A) (cF nv u)).size=13+u.size from hs];omega
 have e2:oW A (cn A) ⟨1000000000,cF nv u⟩ 1000000000=(⟨1000000000,1000000000,dB A (cn A) (cF nv u)⟩:aC):=by unfold oW;rw[if_pos e];unfold mG;rfl
 rw[e,e2] at hr;exact hr
theorem Hn (A:ax)(hA:A=aj)(nv:Int)(u:ByteArray)(h1:1<=nv)(h9:nv<=9)(hw:dw u=true):al 70 [.agg [.ii 1,.ii nv,.ii 0,.ii 1,.ii 0,.str u,.str (aaP #[105,110,98,111,120]),.str aaM]] (.ii (vl (⟨1000000000,1000000000,dB A (cn A) (cF nv u)⟩:aC))):=by
 refine aY Tryz.func70 ?_;refine gx hA 2 ?_;refine gs (gr (rn hA 2 ?_));obtain⟨a3,a2,a1,a4,a5,a0,aJ⟩:=X2 (Pq A hA nv u h1 h9 hw);refine aH aJ (.inr rfl) ?_;refine rz hA 6 ?_;refine gs (gx hA 2 ?_);refine gc (λc3=>?_) (λc3=>?_)
 ·
  exact ay c3 (by subst hA;rfl)
 refine gk (gs (gr (rn hA 1 ?_)));obtain⟨a7,a6,eu⟩:=yZ (vl (⟨a3,a2,a1⟩:aC)) (uW A hA (⟨a3,a2,a1⟩:aC) (by rw[a0];show(dB A (cn A) (cF nv u)).size<=10485760;rw[sw hA (iP hA) h1 h9 hw];have:=fV hw;omega));refine aH eu (.inr rfl) ?_;refine rz hA 1 ?_;refine rt (gt ?_);refine congrArg (PV.int .i64) ?_;rw[a6,a4,a5,a0]
theorem Pr (A:ax)(hA:A=aj)(nv:Int)(u:ByteArray)(h1:1<=nv)(h9:nv<=9)(hw:dw u=true):al 100 [.agg [.ii 1000000000,.ii 1,.ii nv,.ii 0,.ii 1,.ii 0,.str u,.str (aaP #[105,110,98,111,120]),.str aaM],.ii 1000000000] (.aw [.agg (dM (⟨1000000000,1000000000,dB A (cn A) (cF nv u)⟩:aC)),.bool true]):=by
 have hz:=fV hw;have h0:aaM.size=0:=rfl;have h5:cG.size=5:=rfl;have hr:=uY A hA ⟨1000000000,cF nv u⟩ 1000000000 (by intro q hq;simp[pw,eH,cF] at hq;rcases hq with rfl | rfl | rfl<;>omega);have hs:=sw (A:=A) hA (nC hA) h1 h9 hw;have e:kX A (dp A) ⟨1000000000,cF nv u⟩ 1000000000=true:=by
  unfold kX cU mG;rw[show bH (cF nv u)=true from tW h1 (by omega) hw];simp only[dm,ab5,aaR,decide_eq_true_eq];rw[show(dB A (dp A) (cF nv u)).size=13+u.size from hs];omega
 have e2:oW A (dp A) ⟨1000000000,cF nv u⟩ 1000000000=(⟨1000000000,1000000000,dB A (cn A) (cF nv u)⟩:aC):=by unfold oW;rw[if_pos e];unfold mG;rw[show dB A (dp A) (cF nv u)=dB A (cn A) (cF nv u) from DP hA (tJ h1 h9 hw)]
 rw[e,e2] at hr;exact hr
theorem Ho (A:ax)(hA:A=aj)(nv:Int)(u:ByteArray)(h1:1<=nv)(h9:nv<=9)(hw:dw u=true):al 56 [.agg [.ii 1,.ii nv,.ii 0,.ii 1,.ii 0,.str u,.str (aaP #[105,110,98,111,120]),.str aaM]] (.ii (vl (⟨1000000000,1000000000,dB A (cn A) (cF nv u)⟩:aC))):=by
 refine aY Tryz.func56 ?_;refine gx hA 2 ?_;refine gs (gr (rn hA 2 ?_));obtain⟨a3,a2,a1,a4,a5,a0,aJ⟩:=X2 (Pr A hA nv u h1 h9 hw);refine aH aJ (.inr rfl) ?_;refine rz hA 6 ?_;refine gs (gx hA 2 ?_);refine gc (λc3=>?_) (λc3=>?_)
 ·
  exact ay c3 (by subst hA;rfl)
 refine gk (gs (gr (rn hA 1 ?_)));obtain⟨a7,a6,eu⟩:=yZ (vl (⟨a3,a2,a1⟩:aC)) (DU A hA (⟨a3,a2,a1⟩:aC) (by rw[a0];show(dB A (cn A) (cF nv u)).size<=10485760;rw[sw hA (iP hA) h1 h9 hw];have:=fV hw;omega));refine aH eu (.inr rfl) ?_;refine rz hA 1 ?_;refine rt (gt ?_);refine congrArg (PV.int .i64) ?_;rw[a6,a4,a5,a0]
end Go.Av

/- Lemmas and walks for FnExactServerNew: what each function of the program and of the reference comes to. -/
import Derived.Test.YtghokbigemmaaaaGreatM3
import Derived.Test.YtghokbigemmaaaaGreatV2
open List renaming length→aaK,map→aaN,take_of_length_le→aaU,length_cons→aa5,getElem?_eq_getElem→aa7,length_nil→abn,cons→abC
open Int renaming toNat→aaO,not_lt→abd
open Nat renaming zero_le→aaW
namespace Go.Av
open Go Go.Proofs
set_option maxRecDepth 100000
set_option maxHeartbeats 4000000
set_option linter.unusedVariables false
set_option linter.unusedSimpArgs false
def Y9 (p0:RR)(p1 p2:Int):St:={sl:=.sl 1 p0::.ii p1::dV++.ii p2::ya,bl:=[]}
theorem A2 (A:ax)(hA:A=aj)(x:List ByteArray)(k:Int)(h0:0<=k)(h1:k+aB x<=1099511627776):al 43 [.sl 1 (aaN ah (cD k x)),.ii k] (.ii (k+aB x)):=by
 obtain⟨jf,b8⟩:=nm (aaN ah (cD k x));have f9:A.ao jf=(aaK x:Int):=by rw[ab hA b8,ly]
 have h2:(aaK x:Int)<=1099511627776:=by have:=A3 x;omega
 refine ak (az:=[.sl 1 jf,.ii k]) (by subst b8;rfl) ?_;refine aY Tryz.func43 ?_;refine gx hA 1 ?_;refine gs (gx hA 1 ?_);refine af ?_;refine aF (λσ m=>∃(i:Nat) (n5 kk:Int),σ=(Y9 jf kk n5)/\(n5=(i:Int)/\i<=aaK x/\kk=k+aB (x.take i))/\m=aaK x - i) _ [] [0,1,5] [] _ rfl (by cbv) ⟨0,0,k,rfl,?_,rfl⟩ (λσ m hI=>?_)
 ·
  exact⟨rfl,aaW _,by simp[aB]⟩
 obtain⟨i,n5,kk,rfl,⟨jY,hi,hkk⟩,rfl⟩:=hI;refine gs (gx hA 4 ?_);refine gc (λc1=>?_) (λc1=>?_)
 ·
  have aV:n5 < (A.ao jf):=aP hA c1;refine gk (gs (af (gs (gs ?_))));have kx:(0:Int)<=n5:=by omega
  have hlt:i < aaK x:=by omega
  obtain⟨y,hyi⟩:∃ y,x[i]? =some y:=⟨_,aa7 hlt⟩;have cat:=A4 hyi;have cle:=A5 x (i+1);have cnn:=de (x.take i);have hro:=zD k hyi;rw[<- hkk] at hro;have cce:mU y=1:=rfl;obtain⟨r1,ep,e1⟩:∃ r:Int,r=0/\0<=r:=⟨0,rfl,by decide⟩;obtain⟨r0,dQ,e0⟩:∃ r:Int,r=1+r1/\0<=r:=⟨_,rfl,fA (by decide) e1⟩;have p0:0<=kk:=by clear ep e1 dQ e0;omega
  have hrce:r0=mU y:=by subst ep dQ;rw[cce];omega
  have q0:kk+r0<=1099511627776/\kk+r0=kk+r0:=⟨by clear ep e1 dQ e0;omega,rfl⟩;have j5:n5 < (aaK x:Int):=by clear ep e1 dQ e0;omega
  have nU:i+1<=aaK x:=by clear ep e1 dQ e0;omega
  have g0:A.num .add .i64 n5 1=((i+1:Nat):Int):=by
   clear ep e1 dQ e0;rw[au hA (by omega) (by omega)];omega
  have hdec:aaK x - (i+1) < aaK x - i:=by clear ep e1 dQ e0;omega
  obtain⟨s_0,k4⟩:=nm (mt kk:ByteArray);obtain⟨La,f8,f6,g7,g1⟩:=add_one hA p0 q0 dQ e1;have hrow:([.str s_0]:List PV)=ah (uG kk y):=by
   subst f8;show _=([_]:List PV);exact congr (congrArg abC (congrArg PV.str k4)) (rfl)
  have hget:jf[(aaO n5)]? =some [.str s_0]:=by
   rw[hrow,jY];exact bC ah b8 hro
  refine cz [0,1,2,3,4,5,6] (by cbv) ?_;refine bL hA 2 ?_;refine ob kx hget ?_;refine bL hA 2 ?_;obtain⟨n2,k9,mi⟩:=fe (ic A hA kk p0 (A6 q0 e0));refine eQ mi (.inr rfl) ?_;refine dz hA 1 ?_;refine gc (λc4=>?_) (λc4=>?_)
  ·
   exact ay c4 (by subst hA;simp[aj,k4,k9])
  refine gk (gr (rn hA 1 ?_));refine mA hA f6 ?_;refine rz hA 1 ?_;refine gy hA 3 ?_;refine⟨_,_,?_,by cbv,i+1,(A.num .add .i64 n5 1),La,rfl,?_,rfl⟩
  ·
   exact hdec
  exact⟨g0,nU,B6 g1 ep hrce hkk cat⟩
 have aV:(A.ao jf)<=n5:=aQ hA c1;refine aI (gE ?_);refine gx hA 2 ?_;refine rt (gt ?_);refine congrArg (PV.int .i64) ?_;rw[hkk,aaU (by omega)]
def Za (p0:RR)(p1 p2:Int):St:={sl:=.sl 1 p0::.ii p1::dV++.ii p2::vg,bl:=[]}
theorem EU (A:ax)(hA:A=aj)(x:List Int)(k:Int)(h0:0<=k)(h1:k+dC x<=1099511627776)(vx:aaK x=0):al 42 [.sl 1 (aaN bq (kY k x)),.ii k] (.ii (k+dC x)):=by
 obtain⟨jf,b8⟩:=nm (aaN bq (kY k x));have f9:A.ao jf=(aaK x:Int):=by rw[ab hA b8,tH]
 have h2:(aaK x:Int)<=1099511627776:=by have:=It x;omega
 refine ak (az:=[.sl 1 jf,.ii k]) (by subst b8;rfl) ?_;refine aY Tryz.func42 ?_;refine gx hA 1 ?_;refine gs (gx hA 1 ?_);refine af ?_;refine aF (λσ m=>∃(i:Nat) (n5 kk:Int),σ=(Za jf kk n5)/\(n5=(i:Int)/\i<=aaK x/\kk=k+dC (x.take i))/\m=aaK x - i) _ [] [0,1,5] [] _ rfl (by cbv) ⟨0,0,k,rfl,?_,rfl⟩ (λσ m hI=>?_)
 ·
  exact⟨rfl,aaW _,by simp[dC]⟩
 obtain⟨i,n5,kk,rfl,⟨jY,hi,hkk⟩,rfl⟩:=hI;refine gs (gx hA 4 ?_);refine gc (λc1=>?_) (λc1=>?_)
 ·
  have aV:n5 < (A.ao jf):=aP hA c1;omega
 have aV:(A.ao jf)<=n5:=aQ hA c1;refine aI (gE ?_);refine gx hA 2 ?_;refine rt (gt ?_);refine congrArg (PV.int .i64) ?_;rw[hkk,aaU (by omega)]
def Wg (p0:RR)(p1 p2:Int):St:={sl:=.sl 2 p0::.ii p1::dV++.ii p2::vh,bl:=[]}
theorem Cj (A:ax)(hA:A=aj)(x:List br)(k:Int)(h0:0<=k)(h1:k+bh x<=1099511627776)(vx:aaK x=0):al 140 [.sl 2 (aaN bn (fM k x)),.ii k] (.ii (k+bh x)):=by
 obtain⟨jf,b8⟩:=nm (aaN bn (fM k x));have f9:A.ao jf=(aaK x:Int):=by rw[ab hA b8,qN]
 have h2:(aaK x:Int)<=1099511627776:=by have:=wT x;omega
 refine ak (az:=[.sl 2 jf,.ii k]) (by subst b8;rfl) ?_;refine aY Tryz.func140 ?_;refine gx hA 1 ?_;refine gs (gx hA 1 ?_);refine af ?_;refine aF (λσ m=>∃(i:Nat) (n5 kk:Int),σ=(Wg jf kk n5)/\(n5=(i:Int)/\i<=aaK x/\kk=k+bh (x.take i))/\m=aaK x - i) _ [] [0,1,5] [] _ rfl (by cbv) ⟨0,0,k,rfl,?_,rfl⟩ (λσ m hI=>?_)
 ·
  exact⟨rfl,aaW _,by simp[bh]⟩
 obtain⟨i,n5,kk,rfl,⟨jY,hi,hkk⟩,rfl⟩:=hI;refine gs (gx hA 4 ?_);refine gc (λc1=>?_) (λc1=>?_)
 ·
  have aV:n5 < (A.ao jf):=aP hA c1;omega
 have aV:(A.ao jf)<=n5:=aQ hA c1;refine aI (gE ?_);refine gx hA 2 ?_;refine rt (gt ?_);refine congrArg (PV.int .i64) ?_;rw[hkk,aaU (by omega)]
def Wh (p0:RR)(p1 p2:Int):St:={sl:=.sl 9 p0::.ii p1::dV++.ii p2::Tx,bl:=[]}
theorem Dy (A:ax)(hA:A=aj)(x:List ae)(k:Int)(h0:0<=k)(h1:k+cO x<=1099511627776):al 141 [.sl 9 (aaN aW (fW k x)),.ii k] (.ii (k+cO x)):=by
 obtain⟨jf,b8⟩:=nm (aaN aW (fW k x));have f9:A.ao jf=(aaK x:Int):=by rw[ab hA b8,lS]
 have h2:(aaK x:Int)<=1099511627776:=by have:=yK x;omega
 refine ak (az:=[.sl 9 jf,.ii k]) (by subst b8;rfl) ?_;refine aY Tryz.func141 ?_;refine gx hA 1 ?_;refine gs (gx hA 1 ?_);refine af ?_;refine aF (λσ m=>∃(i:Nat) (n5 kk:Int),σ=(Wh jf kk n5)/\(n5=(i:Int)/\i<=aaK x/\kk=k+cO (x.take i))/\m=aaK x - i) _ [] [0,1,5] [] _ rfl (by cbv) ⟨0,0,k,rfl,?_,rfl⟩ (λσ m hI=>?_)
 ·
  exact⟨rfl,aaW _,by simp[cO]⟩
 obtain⟨i,n5,kk,rfl,⟨jY,hi,hkk⟩,rfl⟩:=hI;refine gs (gx hA 4 ?_);refine gc (λc1=>?_) (λc1=>?_)
 ·
  have aV:n5 < (A.ao jf):=aP hA c1;refine gk (gs (af (gs (gs ?_))));have kx:(0:Int)<=n5:=by omega
  have hlt:i < aaK x:=by omega
  obtain⟨y,hyi⟩:∃ y,x[i]? =some y:=⟨_,aa7 hlt⟩;have cat:=EV hyi;have cle:=EW x (i+1);have cnn:=lH (x.take i);have hro:=CX k hyi;rw[<- hkk] at hro;obtain⟨g3,⟨f1,d8,f5,f2,d7,f4,f3,f0⟩⟩:=y;have cce:ky (⟨g3,⟨f1,d8,f5,f2,d7,f4,f3,f0⟩⟩:ae)=1+1+1+1+1+1+1+1+1:=rfl;obtain⟨r9,pq,e9⟩:∃ r:Int,r=0/\0<=r:=⟨0,rfl,by decide⟩;obtain⟨r8,pr,e8⟩:∃ r:Int,r=1+r9/\0<=r:=⟨_,rfl,fA (by decide) e9⟩;obtain⟨r7,kt,e7⟩:∃ r:Int,r=1+r8/\0<=r:=⟨_,rfl,fA (by decide) e8⟩;obtain⟨r6,kv,e6⟩:∃ r:Int,r=1+r7/\0<=r:=⟨_,rfl,fA (by decide) e7⟩;obtain⟨r5,kr,e5⟩:∃ r:Int,r=1+r6/\0<=r:=⟨_,rfl,fA (by decide) e6⟩;obtain⟨r4,gh,e4⟩:∃ r:Int,r=1+r5/\0<=r:=⟨_,rfl,fA (by decide) e5⟩;obtain⟨r3,dS,e3⟩:∃ r:Int,r=1+r4/\0<=r:=⟨_,rfl,fA (by decide) e4⟩;obtain⟨r2,fT,e2⟩:∃ r:Int,r=1+r3/\0<=r:=⟨_,rfl,fA (by decide) e3⟩;obtain⟨r1,ep,e1⟩:∃ r:Int,r=1+r2/\0<=r:=⟨_,rfl,fA (by decide) e2⟩;obtain⟨r0,dQ,e0⟩:∃ r:Int,r=1+r1/\0<=r:=⟨_,rfl,fA (by decide) e1⟩;have p0:0<=kk:=by clear pq e9 pr e8 kt e7 kv e6 kr e5 gh e4 dS e3 fT e2 ep e1 dQ e0;omega
  have hrce:r0=ky (⟨g3,⟨f1,d8,f5,f2,d7,f4,f3,f0⟩⟩:ae):=by subst pq pr kt kv kr gh dS fT ep dQ;rw[cce];omega
  have q0:kk+r0<=1099511627776/\kk+r0=kk+r0:=⟨by clear pq e9 pr e8 kt e7 kv e6 kr e5 gh e4 dS e3 fT e2 ep e1 dQ e0;omega,rfl⟩;have j5:n5 < (aaK x:Int):=by clear pq e9 pr e8 kt e7 kv e6 kr e5 gh e4 dS e3 fT e2 ep e1 dQ e0;omega
  have nU:i+1<=aaK x:=by clear pq e9 pr e8 kt e7 kv e6 kr e5 gh e4 dS e3 fT e2 ep e1 dQ e0;omega
  have g0:A.num .add .i64 n5 1=((i+1:Nat):Int):=by
   clear pq e9 pr e8 kt e7 kv e6 kr e5 gh e4 dS e3 fT e2 ep e1 dQ e0;rw[au hA (by omega) (by omega)];omega
  have hdec:aaK x - (i+1) < aaK x - i:=by clear pq e9 pr e8 kt e7 kv e6 kr e5 gh e4 dS e3 fT e2 ep e1 dQ e0;omega
  obtain⟨La,f8,f6,g7,g1⟩:=add_one hA p0 q0 dQ e1;obtain⟨Qz,j0,g6,i5,i9⟩:=add_one hA g7 g1 ep e2;obtain⟨Lb,i6,g4,i0,g9⟩:=add_one hA i5 i9 fT e3;obtain⟨Lc,m2,l3,m6,l7⟩:=add_one hA i0 g9 dS e4;obtain⟨c_5,m4,l2,m3,m0⟩:=add_one hA m6 l7 gh e5;obtain⟨c_6,m8,l0,j7,k3⟩:=add_one hA m3 m0 kr e6;obtain⟨s_6,k1⟩:=nm (mt c_6:ByteArray);obtain⟨c_7,m7,l4,k6,j9⟩:=add_one hA j7 k3 kv e7;obtain⟨s_7,k5⟩:=nm (mt c_7:ByteArray);obtain⟨c_8,l9,l1,k0,j6⟩:=add_one hA k6 j9 kt e8;obtain⟨s_8,k2⟩:=nm (mt c_8:ByteArray);obtain⟨c_9,l8,l5,n3,m1⟩:=add_one hA k0 j6 pr e9;have hrow:([.ii kk,.ii La,.ii Qz,.ii Lb,.ii Lc,.ii c_5,.str s_6,.str s_7,.str s_8]:List PV)=aW (xx kk (⟨g3,⟨f1,d8,f5,f2,d7,f4,f3,f0⟩⟩:ae)):=by
   subst f8 j0 i6 m2 m4 m8 m7 l9 l8;show _=([_,_,_,_,_,_,_,_,_]:List PV);exact congr (congrArg abC (congrArg (PV.int .i64) rfl)) (congr (congrArg abC (congrArg (PV.int .i64) rfl)) (congr (congrArg abC (congrArg (PV.int .i64) rfl)) (congr (congrArg abC (congrArg (PV.int .i64) rfl)) (congr (congrArg abC (congrArg (PV.int .i64) rfl)) (congr (congrArg abC (congrArg (PV.int .i64) rfl)) (congr (congrArg abC (congrArg PV.str k1)) (congr (congrArg abC (congrArg PV.str k5)) (congr (congrArg abC (congrArg PV.str k2)) (rfl)))))))))
  have hget:jf[(aaO n5)]? =some [.ii kk,.ii La,.ii Qz,.ii Lb,.ii Lc,.ii c_5,.str s_6,.str s_7,.str s_8]:=by
   rw[hrow,jY];exact bC aW b8 hro
  refine gr (rn hA 2 ?_);refine ee kx hget ?_;refine rz hA 4 ?_;refine gc (λc2=>?_) (λc2=>?_)
  ·
   exact ay c2 (by subst hA;simp[aj])
  refine gk (gs (gr (rn hA 1 ?_)));refine mA hA f6 ?_;refine rz hA 1 ?_;refine gs (gs (gr (rn hA 2 ?_)));refine ee kx hget ?_;refine rz hA 5 ?_;refine gc (λc3=>?_) (λc3=>?_)
  ·
   exact ay c3 (by subst hA;simp[aj])
  refine gk (gs (gr (rn hA 1 ?_)));refine mA hA g6 ?_;refine rz hA 1 ?_;refine gs (gs (gr (rn hA 2 ?_)));refine ee kx hget ?_;refine rz hA 5 ?_;refine gc (λc4=>?_) (λc4=>?_)
  ·
   exact ay c4 (by subst hA;simp[aj])
  refine gk (gs (gr (rn hA 1 ?_)));refine mA hA g4 ?_;refine rz hA 1 ?_;refine gs (gs (gr (rn hA 2 ?_)));refine ee kx hget ?_;refine rz hA 5 ?_;refine gc (λc5=>?_) (λc5=>?_)
  ·
   exact ay c5 (by subst hA;simp[aj])
  refine gk (gs (gr (rn hA 1 ?_)));refine mA hA l3 ?_;refine rz hA 1 ?_;refine gs (gs (gr (rn hA 2 ?_)));refine ee kx hget ?_;refine rz hA 5 ?_;refine gc (λc6=>?_) (λc6=>?_)
  ·
   exact ay c6 (by subst hA;simp[aj])
  refine gk (gs (gr (rn hA 1 ?_)));refine mA hA l2 ?_;refine rz hA 1 ?_;refine gs (gs (gr (rn hA 2 ?_)));refine ee kx hget ?_;refine rz hA 5 ?_;refine gc (λc7=>?_) (λc7=>?_)
  ·
   exact ay c7 (by subst hA;simp[aj])
  refine gk (gs (gr (rn hA 1 ?_)));refine mA hA l0 ?_;refine rz hA 1 ?_;refine gs (gs ?_);refine cz [0,1,2,3,4,5,6,7,8] (by cbv) ?_;refine bL hA 2 ?_;refine ob kx hget ?_;refine bL hA 4 ?_;obtain⟨n1,k8,kA⟩:=fe (ic A hA c_6 j7 (A6 k3 e6));refine eQ kA (.inr rfl) ?_;refine dz hA 1 ?_;refine gc (λcB=>?_) (λcB=>?_)
  ·
   exact ay cB (by subst hA;simp[aj,k1,k8])
  refine gk (gs (gr (rn hA 1 ?_)));refine mA hA l4 ?_;refine rz hA 1 ?_;refine gs (gs ?_);refine cz [0,1,2,3,4,5,6,7,8] (by cbv) ?_;refine bL hA 2 ?_;refine ob kx hget ?_;refine bL hA 4 ?_;obtain⟨n0,j4,m5⟩:=fe (ic A hA c_7 k6 (A6 j9 e7));refine eQ m5 (.inr rfl) ?_;refine dz hA 1 ?_;refine gc (λeU=>?_) (λeU=>?_)
  ·
   exact ay eU (by subst hA;simp[aj,k5,j4])
  refine gk (gs (gr (rn hA 1 ?_)));refine mA hA l1 ?_;refine rz hA 1 ?_;refine gs (gs ?_);refine cz [0,1,2,3,4,5,6,7,8] (by cbv) ?_;refine bL hA 2 ?_;refine ob kx hget ?_;refine bL hA 4 ?_;obtain⟨m9,j1,l6⟩:=fe (ic A hA c_8 k0 (A6 j6 e8));refine eQ l6 (.inr rfl) ?_;refine dz hA 1 ?_;refine gc (λiA=>?_) (λiA=>?_)
  ·
   exact ay iA (by subst hA;simp[aj,k2,j1])
  refine gk (gr (rn hA 1 ?_));refine mA hA l5 ?_;refine rz hA 1 ?_;refine gy hA 3 ?_;refine⟨_,_,?_,by cbv,i+1,(A.num .add .i64 n5 1),c_9,rfl,?_,rfl⟩
  ·
   exact hdec
  exact⟨g0,nU,B6 m1 pq hrce hkk cat⟩
 have aV:(A.ao jf)<=n5:=aQ hA c1;refine aI (gE ?_);refine gx hA 2 ?_;refine rt (gt ?_);refine congrArg (PV.int .i64) ?_;rw[hkk,aaU (by omega)]
def Zb (p0:RR)(p1 p2:Int):St:={sl:=.sl 4 p0::.ii p1::dV++.ii p2::Tn,bl:=[]}
theorem EX (A:ax)(hA:A=aj)(x:List bu)(k:Int)(h0:0<=k)(h1:k+bK x<=1099511627776):al 81 [.sl 4 (aaN cA (ft k x)),.ii k] (.ii (k+bK x)):=by
 obtain⟨jf,b8⟩:=nm (aaN cA (ft k x));have f9:A.ao jf=(aaK x:Int):=by rw[ab hA b8,oN]
 have h2:(aaK x:Int)<=1099511627776:=by have:=A7 x;omega
 refine ak (az:=[.sl 4 jf,.ii k]) (by subst b8;rfl) ?_;refine aY Tryz.func81 ?_;refine gx hA 1 ?_;refine gs (gx hA 1 ?_);refine af ?_;refine aF (λσ m=>∃(i:Nat) (n5 kk:Int),σ=(Zb jf kk n5)/\(n5=(i:Int)/\i<=aaK x/\kk=k+bK (x.take i))/\m=aaK x - i) _ [] [0,1,5] [] _ rfl (by cbv) ⟨0,0,k,rfl,?_,rfl⟩ (λσ m hI=>?_)
 ·
  exact⟨rfl,aaW _,by simp[bK]⟩
 obtain⟨i,n5,kk,rfl,⟨jY,hi,hkk⟩,rfl⟩:=hI;refine gs (gx hA 4 ?_);refine gc (λc1=>?_) (λc1=>?_)
 ·
  have aV:n5 < (A.ao jf):=aP hA c1;refine gk (gs (af (gs (gs ?_))));have kx:(0:Int)<=n5:=by omega
  have hlt:i < aaK x:=by omega
  obtain⟨y,hyi⟩:∃ y,x[i]? =some y:=⟨_,aa7 hlt⟩;have cat:=Iu hyi;have cle:=Iv x (i+1);have cnn:=gM (x.take i);have hro:=EY k hyi;rw[<- hkk] at hro;obtain⟨i3,g8,g5,c8⟩:=y;have cce:mV (⟨i3,g8,g5,c8⟩:bu)=1+1+1+cO c8:=rfl;have f7:=lH c8;obtain⟨r4,gh,e4⟩:∃ r:Int,r=0/\0<=r:=⟨0,rfl,by decide⟩;obtain⟨r3,dS,e3⟩:∃ r:Int,r=cO c8+r4/\0<=r:=⟨_,rfl,fA f7 e4⟩;obtain⟨r2,fT,e2⟩:∃ r:Int,r=1+r3/\0<=r:=⟨_,rfl,fA (by decide) e3⟩;obtain⟨r1,ep,e1⟩:∃ r:Int,r=1+r2/\0<=r:=⟨_,rfl,fA (by decide) e2⟩;obtain⟨r0,dQ,e0⟩:∃ r:Int,r=1+r1/\0<=r:=⟨_,rfl,fA (by decide) e1⟩;have p0:0<=kk:=by clear gh e4 dS e3 fT e2 ep e1 dQ e0;omega
  have hrce:r0=mV (⟨i3,g8,g5,c8⟩:bu):=by subst gh dS fT ep dQ;rw[cce];omega
  have q0:kk+r0<=1099511627776/\kk+r0=kk+r0:=⟨by clear gh e4 dS e3 fT e2 ep e1 dQ e0;omega,rfl⟩;have j5:n5 < (aaK x:Int):=by clear gh e4 dS e3 fT e2 ep e1 dQ e0;omega
  have nU:i+1<=aaK x:=by clear gh e4 dS e3 fT e2 ep e1 dQ e0;omega
  have g0:A.num .add .i64 n5 1=((i+1:Nat):Int):=by
   clear gh e4 dS e3 fT e2 ep e1 dQ e0;rw[au hA (by omega) (by omega)];omega
  have hdec:aaK x - (i+1) < aaK x - i:=by clear gh e4 dS e3 fT e2 ep e1 dQ e0;omega
  obtain⟨La,f8,f6,g7,g1⟩:=add_one hA p0 q0 dQ e1;obtain⟨Qz,j0,g6,i5,i9⟩:=add_one hA g7 g1 ep e2;obtain⟨Lb,i6,g4,i0,g9⟩:=add_one hA i5 i9 fT e3;obtain⟨TX,i7⟩:=nm (aaN aW (fW Lb c8):RR);have n4:A.ao TX=(aaK c8:Int):=by rw[ab hA i7,lS]
  obtain⟨Lc,i4⟩:=nm (Lb+cO c8:Int);have j2:=QA i4 i0 g9 dS f7;have hrow:([.ii kk,.ii La,.ii Qz,.sl 9 TX]:List PV)=cA (B7 kk (⟨i3,g8,g5,c8⟩:bu)):=by
   subst f8 j0 i6 i4;show _=([_,_,_,_]:List PV);exact congr (congrArg abC (congrArg (PV.int .i64) rfl)) (congr (congrArg abC (congrArg (PV.int .i64) rfl)) (congr (congrArg abC (congrArg (PV.int .i64) rfl)) (congr (congrArg abC (congrArg (PV.sl 9) i7)) (rfl))))
  have hget:jf[(aaO n5)]? =some [.ii kk,.ii La,.ii Qz,.sl 9 TX]:=by
   rw[hrow,jY];exact bC cA b8 hro
  refine gr (rn hA 2 ?_);refine ee kx hget ?_;refine rz hA 4 ?_;refine gc (λc2=>?_) (λc2=>?_)
  ·
   exact ay c2 (by subst hA;simp[aj])
  refine gk (gs (gr (rn hA 1 ?_)));refine mA hA f6 ?_;refine rz hA 1 ?_;refine gs (gs (gr (rn hA 2 ?_)));refine ee kx hget ?_;refine rz hA 4 ?_;refine gc (λc3=>?_) (λc3=>?_)
  ·
   exact ay c3 (by subst hA;simp[aj])
  refine gk (gs (gr (rn hA 1 ?_)));refine mA hA g6 ?_;refine rz hA 1 ?_;refine gs (gs (gr (rn hA 2 ?_)));refine ee kx hget ?_;refine rz hA 4 ?_;refine gc (λc4=>?_) (λc4=>?_)
  ·
   exact ay c4 (by subst hA;simp[aj])
  refine gk (gs (gr (rn hA 1 ?_)));refine mA hA g4 ?_;refine rz hA 1 ?_;refine gs (gr (rn hA 2 ?_));refine ee kx hget ?_;refine rn hA 3 ?_;have kU:al 141 [.sl 9 TX,.ii Lb] (.ii Lc):=by
   subst i7;rw[i4];exact Dy A hA c8 Lb i0 (TY g9 dS e4)
  refine aH kU (.inl trivial) ?_;refine rz hA 1 ?_;refine gx hA 2 ?_;refine gc (λc7=>?_) (λc7=>?_)
  ·
   have jx:Lc < 0:=aP hA c7;exact absurd jx (abd.2 j2.1)
  have jx:0<=Lc:=aQ hA c7;refine gk (gy hA 3 ?_);refine⟨_,_,?_,by cbv,i+1,(A.num .add .i64 n5 1),Lc,rfl,?_,rfl⟩
  ·
   exact hdec
  exact⟨g0,nU,B6 j2.2 gh hrce hkk cat⟩
 have aV:(A.ao jf)<=n5:=aQ hA c1;refine aI (gE ?_);refine gx hA 2 ?_;refine rt (gt ?_);refine congrArg (PV.int .i64) ?_;rw[hkk,aaU (by omega)]
def Zc (p0:RR)(p1 p2:Int):St:={sl:=.sl 17 p0::.ii p1::dV++.ii p2::Vx,bl:=[]}
theorem zP (A:ax)(hA:A=aj)(x:List fi)(k:Int)(h0:0<=k)(h1:k+cK x<=1099511627776)(vx:aaK x=0):al 23 [.sl 17 (aaN kZ (iZ k x)),.ii k] (.ii (k+cK x)):=by
 obtain⟨jf,b8⟩:=nm (aaN kZ (iZ k x));have f9:A.ao jf=(aaK x:Int):=by rw[ab hA b8,oO]
 have h2:(aaK x:Int)<=1099511627776:=by have:=sK x;omega
 refine ak (az:=[.sl 17 jf,.ii k]) (by subst b8;rfl) ?_;refine aY Tryz.func23 ?_;refine gx hA 1 ?_;refine gs (gx hA 1 ?_);refine af ?_;refine aF (λσ m=>∃(i:Nat) (n5 kk:Int),σ=(Zc jf kk n5)/\(n5=(i:Int)/\i<=aaK x/\kk=k+cK (x.take i))/\m=aaK x - i) _ [] [0,1,5] [] _ rfl (by cbv) ⟨0,0,k,rfl,?_,rfl⟩ (λσ m hI=>?_)
 ·
  exact⟨rfl,aaW _,by simp[cK]⟩
 obtain⟨i,n5,kk,rfl,⟨jY,hi,hkk⟩,rfl⟩:=hI;refine gs (gx hA 4 ?_);refine gc (λc1=>?_) (λc1=>?_)
 ·
  have aV:n5 < (A.ao jf):=aP hA c1;omega
 have aV:(A.ao jf)<=n5:=aQ hA c1;refine aI (gE ?_);refine gx hA 2 ?_;refine rt (gt ?_);refine congrArg (PV.int .i64) ?_;rw[hkk,aaU (by omega)]
theorem EZ (A:ax)(hA:A=aj)(x:bj)(k:Int)(h0:0<=k)(h1:k+E0 x<=1099511627776)(ja:aaK x.Cache=0):al 80 [.agg (gf (QB k x)),.ii k] (.ii (k+aB x.aD+bh x.Cache)):=by
 obtain⟨d0,d4⟩:=x;obtain⟨a0,xk⟩:=nm (aaN ah (cD (k) d0):RR);have Ld:=de d0;obtain⟨a1,A8⟩:=nm (aaN bn (fM (k+aB d0) d4):RR);have Le:=fw d4;have h1:k+(aB d0+bh d4)<=1099511627776:=h1;have ja:aaK d4=0:=ja;refine ak (az:=[.agg [.sl 1 a0,.sl 2 a1],.ii k]) (by subst xk A8;rfl) ?_;refine aY Tryz.func80 ?_;refine gx hA 2 ?_;refine gs (gr (rn hA 3 ?_));have n6:=de d0;obtain⟨q1,oX,aJ⟩:∃ q:Int,q=k+aB d0/\al 43 [.sl 1 a0,.ii k] (.ii q):=⟨_,rfl,by
  subst xk;exact A2 A hA d0 k (by omega) (by omega)⟩
 have Lf:0<=q1:=by omega
 refine aH aJ (.inl trivial) ?_;refine rz hA 1 ?_;refine gs (gx hA 2 ?_);refine gc (λc3=>?_) (λc3=>?_)
 ·
  have cI:q1 < 0:=aP hA c3;exact absurd cI (abd.2 Lf)
 have cI:0<=q1:=aQ hA c3;refine gk (gs (gr (rn hA 3 ?_)));have i8:=fw d4;obtain⟨q4,A9,eu⟩:∃ q:Int,q=q1+bh d4/\al 140 [.sl 2 a1,.ii q1] (.ii q):=⟨_,rfl,by
  subst A8;subst oX;exact Cj A hA d4 _ (by omega) (by omega) (by omega)⟩
 have Lg:0<=q4:=by omega
 refine aH eu (.inl trivial) ?_;refine rz hA 1 ?_;refine gs (gx hA 2 ?_);refine gc (λc6=>?_) (λc6=>?_)
 ·
  have cp:q4 < 0:=aP hA c6;exact absurd cp (abd.2 Lg)
 have cp:0<=q4:=aQ hA c6;refine gk (gx hA 2 ?_);refine rt (gt ?_);show _=(PV.int .i64 q4);subst oX A9;rfl
theorem GC (A:ax)(hA:A=aj)(x:bF)(k:Int)(h0:0<=k)(h1:k+JR x<=1099511627776)(ja:aaK x.ba.Cache=0):al 41 [.agg (mT (TZ k x)),.ii k] (.ii (k+aB x.ba.aD+bh x.ba.Cache+bK x.Used)):=by
 obtain⟨⟨b0,b2⟩,k7,d9,i2,i1,j3,g2⟩:=x;obtain⟨a0,xk⟩:=nm (aaN ah (cD (k) b0):RR);have Ld:=de b0;obtain⟨a1,A8⟩:=nm (aaN bn (fM (k+aB b0) b2):RR);have Le:=fw b2;obtain⟨a3,Iw⟩:=nm (aaN cA (ft (k+aB b0+bh b2) d9):RR);have QC:=gM d9;have h1:k+(aB b0+bh b2+bK d9)<=1099511627776:=h1;have ja:aaK b2=0:=ja;refine ak (az:=[.agg [.sl 1 a0,.sl 2 a1,.ii k7,.sl 4 a3,.ii i2,.ii i1,.ii j3,.ii g2],.ii k]) (by subst xk A8 Iw;rfl) ?_;refine aY Tryz.func41 ?_;refine gx hA 2 ?_;refine gs (gr (rn hA 3 ?_));have j8:E0 (⟨b0,b2⟩:bj)=aB b0+bh b2:=rfl;obtain⟨q1,oX,aJ⟩:∃ q:Int,q=k+aB b0+bh b2/\al 80 [.agg [.sl 1 a0,.sl 2 a1],.ii k] (.ii q):=⟨_,rfl,by
  subst xk A8;exact EZ A hA (⟨b0,b2⟩:bj) k (by omega) (by omega) (by omega)⟩
 have Lf:0<=q1:=by omega
 refine aH aJ (.inl trivial) ?_;refine rz hA 1 ?_;refine gs (gx hA 2 ?_);refine gc (λc3=>?_) (λc3=>?_)
 ·
  have cI:q1 < 0:=aP hA c3;exact absurd cI (abd.2 Lf)
 have cI:0<=q1:=aQ hA c3;refine gk (gs (gr (rn hA 3 ?_)));have i8:=gM d9;obtain⟨q4,A9,eu⟩:∃ q:Int,q=q1+bK d9/\al 81 [.sl 4 a3,.ii q1] (.ii q):=⟨_,rfl,by
  subst Iw;subst oX;exact EX A hA d9 _ (by omega) (by omega)⟩
 have Lg:0<=q4:=by omega
 refine aH eu (.inl trivial) ?_;refine rz hA 1 ?_;refine gs (gx hA 2 ?_);refine gc (λc6=>?_) (λc6=>?_)
 ·
  have cp:q4 < 0:=aP hA c6;exact absurd cp (abd.2 Lg)
 have cp:0<=q4:=aQ hA c6;refine gk (gx hA 2 ?_);refine rt (gt ?_);show _=(PV.int .i64 q4);subst oX A9;rfl
theorem Dz (A:ax)(hA:A=aj)(x:aK)(k:Int)(h0:0<=k)(h1:k+B8 x<=1099511627776)(ja:aaK x.Log.ba.Cache=0)(nX:aaK x.cW=0):al 22 [.agg (iv (MZ k x)),.ii k] (.ii (k+aB x.Log.ba.aD+bh x.Log.ba.Cache+bK x.Log.Used+dC x.cW)):=by
 obtain⟨⟨⟨a5,a6⟩,d6,b6,d1,d2,d5,c9⟩,d3⟩:=x;obtain⟨a0,xk⟩:=nm (aaN ah (cD (k) a5):RR);have Ld:=de a5;obtain⟨a1,A8⟩:=nm (aaN bn (fM (k+aB a5) a6):RR);have Le:=fw a6;obtain⟨a3,Iw⟩:=nm (aaN cA (ft (k+aB a5+bh a6) b6):RR);have QC:=gM b6;obtain⟨a8,QD⟩:=nm (aaN bq (kY (k+aB a5+bh a6+bK b6) d3):RR);have Wi:=kN d3;have h1:k+(aB a5+bh a6+bK b6+dC d3)<=1099511627776:=h1;have ja:aaK a6=0:=ja;have nX:aaK d3=0:=nX;refine ak (az:=[.agg [.sl 1 a0,.sl 2 a1,.ii d6,.sl 4 a3,.ii d1,.ii d2,.ii d5,.ii c9,.sl 1 a8],.ii k]) (by subst xk A8 Iw QD;rfl) ?_;refine aY Tryz.func22 ?_;refine gx hA 2 ?_;refine gs (gr (rn hA 3 ?_));have j8:JR (⟨⟨a5,a6⟩,d6,b6,d1,d2,d5,c9⟩:bF)=aB a5+bh a6+bK b6:=rfl;obtain⟨q1,oX,aJ⟩:∃ q:Int,q=k+aB a5+bh a6+bK b6/\al 41 [.agg [.sl 1 a0,.sl 2 a1,.ii d6,.sl 4 a3,.ii d1,.ii d2,.ii d5,.ii c9],.ii k] (.ii q):=⟨_,rfl,by
  subst xk A8 Iw;exact GC A hA (⟨⟨a5,a6⟩,d6,b6,d1,d2,d5,c9⟩:bF) k (by omega) (by omega) (by omega)⟩
 have Lf:0<=q1:=by omega
 refine aH aJ (.inl trivial) ?_;refine rz hA 1 ?_;refine gs (gx hA 2 ?_);refine gc (λc3=>?_) (λc3=>?_)
 ·
  have cI:q1 < 0:=aP hA c3;exact absurd cI (abd.2 Lf)
 have cI:0<=q1:=aQ hA c3;refine gk (gs (gr (rn hA 3 ?_)));have i8:=kN d3;obtain⟨q4,A9,eu⟩:∃ q:Int,q=q1+dC d3/\al 42 [.sl 1 a8,.ii q1] (.ii q):=⟨_,rfl,by
  subst QD;subst oX;exact EU A hA d3 _ (by omega) (by omega) (by omega)⟩
 have Lg:0<=q4:=by omega
 refine aH eu (.inl trivial) ?_;refine rz hA 1 ?_;refine gs (gx hA 2 ?_);refine gc (λc6=>?_) (λc6=>?_)
 ·
  have cp:q4 < 0:=aP hA c6;exact absurd cp (abd.2 Lg)
 have cp:0<=q4:=aQ hA c6;refine gk (gx hA 2 ?_);refine rt (gt ?_);show _=(PV.int .i64 q4);subst oX A9;rfl
theorem sZ (A:ax)(hA:A=aj)(x:gv)(k:Int)(h0:0<=k)(h1:k+uH x<=1099511627776)(ja:aaK x.aN.Log.ba.Cache=0)(nX:aaK x.aN.cW=0)(Ix:aaK x.dg=0):al 12 [.agg (GD (Lh k x)),.ii k] (.ii (k+aB x.aN.Log.ba.aD+bh x.aN.Log.ba.Cache+bK x.aN.Log.Used+dC x.aN.cW+cK x.dg)):=by
 obtain⟨⟨⟨⟨a2,a4⟩,b9,a7,b4,b5,b7,b3⟩,b1⟩,c0⟩:=x;obtain⟨a0,xk⟩:=nm (aaN ah (cD (k) a2):RR);have Ld:=de a2;obtain⟨a1,A8⟩:=nm (aaN bn (fM (k+aB a2) a4):RR);have Le:=fw a4;obtain⟨a3,Iw⟩:=nm (aaN cA (ft (k+aB a2+bh a4) a7):RR);have QC:=gM a7;obtain⟨a8,QD⟩:=nm (aaN bq (kY (k+aB a2+bh a4+bK a7) b1):RR);have Wi:=kN b1;obtain⟨a9,ha9⟩:=nm (aaN kZ (iZ (k+aB a2+bh a4+bK a7+dC b1) c0):RR);have nn9:=lz c0;have h1:k+(aB a2+bh a4+bK a7+dC b1+cK c0)<=1099511627776:=h1;have ja:aaK a4=0:=ja;have nX:aaK b1=0:=nX;have Ix:aaK c0=0:=Ix;refine ak (az:=[.agg [.sl 1 a0,.sl 2 a1,.ii b9,.sl 4 a3,.ii b4,.ii b5,.ii b7,.ii b3,.sl 1 a8,.sl 17 a9],.ii k]) (by subst xk A8 Iw QD ha9;rfl) ?_;refine aY Tryz.func12 ?_;refine gx hA 2 ?_;refine gs (gr (rn hA 3 ?_));have j8:B8 (⟨⟨⟨a2,a4⟩,b9,a7,b4,b5,b7,b3⟩,b1⟩:aK)=aB a2+bh a4+bK a7+dC b1:=rfl;obtain⟨q1,oX,aJ⟩:∃ q:Int,q=k+aB a2+bh a4+bK a7+dC b1/\al 22 [.agg [.sl 1 a0,.sl 2 a1,.ii b9,.sl 4 a3,.ii b4,.ii b5,.ii b7,.ii b3,.sl 1 a8],.ii k] (.ii q):=⟨_,rfl,by
  subst xk A8 Iw QD;exact Dz A hA (⟨⟨⟨a2,a4⟩,b9,a7,b4,b5,b7,b3⟩,b1⟩:aK) k (by omega) (by omega) (by omega) (by omega)⟩
 have Lf:0<=q1:=by omega
 refine aH aJ (.inl trivial) ?_;refine rz hA 1 ?_;refine gs (gx hA 2 ?_);refine gc (λc3=>?_) (λc3=>?_)
 ·
  have cI:q1 < 0:=aP hA c3;exact absurd cI (abd.2 Lf)
 have cI:0<=q1:=aQ hA c3;refine gk (gs (gr (rn hA 3 ?_)));have i8:=lz c0;obtain⟨q4,A9,eu⟩:∃ q:Int,q=q1+cK c0/\al 23 [.sl 17 a9,.ii q1] (.ii q):=⟨_,rfl,by
  subst ha9;subst oX;exact zP A hA c0 _ (by omega) (by omega) (by omega)⟩
 have Lg:0<=q4:=by omega
 refine aH eu (.inl trivial) ?_;refine rz hA 1 ?_;refine gs (gx hA 2 ?_);refine gc (λc6=>?_) (λc6=>?_)
 ·
  have cp:q4 < 0:=aP hA c6;exact absurd cp (abd.2 Lg)
 have cp:0<=q4:=aQ hA c6;refine gk (gx hA 2 ?_);refine rt (gt ?_);show _=(PV.int .i64 q4);subst oX A9;rfl
theorem ID :∀{l:List Nat} {n:Int},0<=chain n l->(l.sum:Int)<=n
 | [],n,h=>by simpa [chain] using h
 | k::l,n,h=>by
  rw[jF] at h;split at h
  ·omega
  have:=ID h;simp only[List.sum_cons];omega
theorem Ls :∀ l:List ae,cO l=9 * (l.length:Int)
 | []=>rfl
 | x::l=>by
  have h:=Ls l;have h2:ky x=9:=rfl;simp only[cO,aa5,h,h2];omega
theorem GI {A:ax}(hA:A=aj){n:Int}:∀(us:List ByteArray) (g:bF) (L:List aT) (g':bF),lp A g L us=some g'->gV A g n L->L.length+us.length<=3->∃ L',gV A g' n L'
 | [],g,L,g',h,hl,hc=>by
  simp only[lp,Option.some.injEq] at h;subst h;exact⟨L,hl⟩
 | u::us,g,L,g',h,hl,hc=>by
  simp only[aa5] at hc;simp only[lp] at h;split at h
  ·exact GI hA us g L g' h hl (by omega)
  split at h
  ·rename_i hm
   exact GI hA us _ _ g' h (hl.add hA (by omega) hm) (by simp only[List.length_append,aa5,abn];omega)
  cases h
structure aay (x:gv):Prop where
 zs:∀ q∈pJ x,q<=1048576
 c1:aB x.aN.Log.ba.aD<=100
 c2:bh x.aN.Log.ba.Cache<=100
 c3:bK x.aN.Log.Used<=100
 c4:dC x.aN.cW<=100
 c5:cK x.dg<=100
 z1:aaK x.aN.Log.ba.Cache=0
 z2:aaK x.aN.cW=0
 z3:aaK x.dg=0
theorem Na {A:ax}(hA:A=aj)(n:Int)(us:List ByteArray):aay (bB A n us):=by
 cases h:ox A n us with
 | none=>
  rw[(jt h).1];refine⟨?_,by decide,by decide,by decide,by decide,by decide,rfl,rfl,rfl⟩;intro q hq;simp[SJ,pJ,fK,fg,db,bR,dX,gl,jS,qT] at hq;omega
 | some g=>
  rw[(uN h).1];unfold ox at h;split at h
  ·rename_i hc
   have hn:5<=n/\n<=11:=by have:=hc.1;simp[dm] at this;omega
   obtain⟨L,hl⟩:=GI hA us _ _ g h (gV.new hA hn.1 hn.2) (by simp only[abn];omega);refine⟨?_,?_,?_,?_,?_,?_,by show aaK g.ba.Cache=0;rw[hl.ca];rfl,rfl,rfl⟩
   ·intro q hq
    simp only[pJ,fK,List.mem_append] at hq;rcases hq with (hq | hq) | hq
    ·exact hl.zs q hq
    ·simp [jS] at hq;omega
    simp[qT] at hq;omega
   ·show((g.ba.aD.length:Nat):Int)<=100
    have:=hl.dk.2.1;omega
   ·show bh g.ba.Cache<=100
    rw[hl.ca];decide
   ·show bK g.Used<=100
    rw[hl.us,yP];show 1+1+1+cO (bx L)<=100;rw[Ls,show(bx L).length=L.length from List.length_map ..];have:=hl.l3;omega
   ·show dC []<=100
    decide
   show cK []<=100;decide
  cases h
theorem Lt {A:ax}(hA:A=aj)(n:Int)(us:List ByteArray)(a b c d e:Int):∀ k∈pJ ⟨⟨⟨⟨(bB A n us).aN.Log.ba.aD,(bB A n us).aN.Log.ba.Cache⟩,a,(bB A n us).aN.Log.Used,b,c,d,e⟩,(bB A n us).aN.cW⟩,(bB A n us).dg⟩,(k:Int)<=4611686018427387904:=by
 intro k hk;have:=(Na hA n us).zs k hk;omega
theorem vf (A:ax)(hA:A=aj)(aZ:Int)(aL:List ByteArray)(UU:∀ k∈bR aL,(k:Int)<=9223372036854775807):al 3 [.ii aZ,.sl 1 (aaN ah aL)] (.bool true):=by
 obtain⟨j0,e0,k1⟩:=nr hA ah aL;refine ak (az:=[.ii aZ,.sl 1 j0]) (by subst e0;rfl) ?_;refine aY Tryz.func3 ?_;refine gx hA 1 ?_;refine gx hA 1 ?_;refine gs (gr (rn hA 2 ?_));obtain⟨f9,g1,aJ⟩:=tb (DG A hA aL 1048576 (by omega) (by omega) UU);refine aH aJ (.inr rfl) ?_ (hv:=by subst e0;rfl);have m0:=R9 g1 (by omega);refine rz hA 1 ?_;refine gs (gx hA 2 ?_);refine gc (λc3=>?_) (λc3=>?_)
 ·
  have cI:f9 < 0:=aP hA c3;refine gx hA 1 ?_;refine rt (gt ?_);show _=(PV.bool true);rfl
 have cI:0<=f9:=aQ hA c3;refine gk (gs ?_);have tV:∀ k∈bR aL,k<=1048576:=λk hk=>by
  have:=H0 _ _ (show 0<=chain _ _ from g1 ▸ (by omega:(0:Int)<=f9)) k hk;omega
 have aaH:((bR aL).sum:Int)<=1048576:=by
  have:=ID (show 0<=chain _ _ from g1 ▸ (by omega:(0:Int)<=f9));omega
 have UW:∀ k∈bR aL,(k:Int)<=4611686018427387904:=λk hk=>by have:=tV k hk;omega
 have pa:=Na hA aZ aL;have o9:=pa.c1;have o4:=pa.c2;have o7:=pa.c3;have o1:=pa.c4;have n9:=pa.c5;have o2:=pa.z1;have o5:=pa.z2;have o6:=pa.z3;have o0:aB aL<=1048576:=by have:=tV (aaK aL) (List.mem_cons_self ..);show((aaK aL:Nat):Int)<=_;omega
 refine gr (rn hA 2 ?_);obtain⟨j8,i7,eu⟩:=xq (mW A hA aL tV);have m4:=ab hA i7;refine aH eu (.inr rfl) ?_ (hv:=by subst e0;rfl);obtain⟨b6,b8,a4,d3,a1,a2,a3,a0,d6,d9,i0,a6,a8,d1,b0,c6,c7,c9,b9,b4,c8,e7,fq⟩:=WD [.ii aZ,.sl 1 (ar j8)] (aaN ah (((((bB A aZ aL).aN).Log).ba).aD)) (aaN aU (((((bB A aZ aL).aN).Log).ba).Cache)) ((((bB A aZ aL).aN).Log).ld) (aaN bW ((((bB A aZ aL).aN).Log).Used)) ((((bB A aZ aL).aN).Log).dZ) ((((bB A aZ aL).aN).Log).ea) ((((bB A aZ aL).aN).Log).fv) ((((bB A aZ aL).aN).Log).cT) (aaN bq (((bB A aZ aL).aN).cW)) (aaN gA ((bB A aZ aL).dg)) (DH A aZ aL) (by subst i7;simp only[bS];exact DI A hA aZ aL (by assumption));have e9:=ab hA a6;have f8:=ab hA a8;have g8:=ab hA b0;have i4:=ab hA b4;have i9:=ab hA c8;refine aH fq (.inl (by simp only[fresh,cj,a6,a8,d1,b0,c6,c7,c9,b9,b4,c8,e7,kc,nA,wU,dy,ev,and_self])) ?_;refine rz hA 6 ?_;refine gs (gr (rn hA 1 ?_));obtain⟨i5,f1,kA⟩:=xq (mW A hA aL tV);have m2:=ab hA f1;refine aH kA (.inr rfl) ?_ (hv:=by subst e0;rfl);refine rz hA 1 ?_;refine gs (gr (rn hA 2 ?_));obtain⟨b3,b7,d2,d5,d8,a5,a7,a9,b2,c0,k4⟩:=QO [.ii aZ,.sl 1 (ar i5)] (aaN ah (((((bB A aZ aL).aN).Log).ba).aD)) (aaN aU (((((bB A aZ aL).aN).Log).ba).Cache)) (aaN bW ((((bB A aZ aL).aN).Log).Used)) (aaN bq (((bB A aZ aL).aN).cW)) (aaN gA ((bB A aZ aL).dg)) a4 a1 a2 a3 a0 i0 (by subst d1;subst c6;subst c7;subst c9;subst b9;subst e7;subst f1;simp only[bS];exact uO A hA aZ aL (by assumption));have e6:=ab hA a5;have f2:=ab hA a7;have g6:=ab hA a9;have i3:=ab hA b2;have i8:=ab hA c0;refine aH k4 (.inl (by simp only[fresh,cj,a5,a7,a9,b2,c0,kc,nA,wU,dy,ev,and_self])) ?_;refine rz hA 6 ?_;refine gs (gs (gr (rn hA 2 ?_)));have l0:al 8 [.agg [.sl 1 (ar b3),.sl 2 (ar b7),.ii a4,.sl 4 (ar d2),.ii a1,.ii a2,.ii a3,.ii a0,.sl 1 (ar d5),.sl 17 (ar d8)],.agg [.sl 1 (ar b6),.sl 2 (ar b8),.ii a4,.sl 4 (ar d3),.ii a1,.ii a2,.ii a3,.ii a0,.sl 1 (ar d6),.sl 17 (ar d9)]] (.bool true):=by subst a5 a7 a9 b2 c0 a6 a8 b0 b4 c8;simp only[js,im,py,bS,cE];exact qU A hA (⟨⟨⟨⟨((((bB A aZ aL).aN).Log).ba).aD,((((bB A aZ aL).aN).Log).ba).Cache⟩,a4,(((bB A aZ aL).aN).Log).Used,a1,a2,a3,a0⟩,((bB A aZ aL).aN).cW⟩,(bB A aZ aL).dg⟩:gv) (Lt hA aZ aL _ _ _ _ _) (by omega) (by omega) (by omega)
 refine aH l0 (.inl trivial) ?_;refine rn hA 2 ?_;refine ag 40 rfl (λdF=>?_) (λdF=>?_)
 ·
  exact ay dF (by subst hA;rfl)
 refine rz hA 4 ?_;refine gc (λeL=>?_) (λeL=>?_)
 ·
  exact ay eL (by subst hA;simp[aj])
 refine gk (gs (gs (gr (rn hA 2 ?_))));obtain⟨j6,i2,k6⟩:=xq (mW A hA aL tV);have l9:=ab hA i2;refine aH k6 (.inr rfl) ?_ (hv:=by subst e0;rfl);have l7:al 9 [.sl 1 (ar i5),.sl 1 (ar j6)] (.bool true):=by subst f1 i2;simp only[bS];exact uP A hA aL UW
 refine aH l7 (.inl trivial) ?_;refine rz hA 1 ?_;refine gc (λjw=>?_) (λjw=>?_)
 ·
  exact ay jw (by subst hA;rfl)
 refine gk (gx hA 1 ?_);refine gs (gr (rn hA 2 ?_));obtain⟨n1,m21,j1,o3,j9⟩:=uQ [.ow 1 i5,.ii 1] (aaN ah (cD 1 aL)) (1+aB aL) 1 (by subst f1;exact sr A hA aL 1 (by omega) (by omega));have m5:=ab hA j1;have n3:=de aL;have k9:0<=m21:=by omega
 refine iJ rfl (by cbv) (by cbv) (by cbv) j9 rfl (by cbv) ?_;refine rz hA 1 ?_;refine gs (gs (gr (rn hA 3 ?_)));refine ag 55 rfl (λjR=>?_) (λjR=>?_)
 ·
  have j4:m21 < 0:=aP hA jR;exact absurd j4 (abd.2 k9)
 have j4:0<=m21:=aQ hA jR;refine rn hA 2 ?_;have l6:al 8 [.agg [.sl 1 (ar b3),.sl 2 (ar b7),.ii a4,.sl 4 (ar d2),.ii a1,.ii a2,.ii a3,.ii a0,.sl 1 (ar d5),.sl 17 (ar d8)],.agg [.sl 1 (ar b6),.sl 2 (ar b8),.ii a4,.sl 4 (ar d3),.ii a1,.ii a2,.ii a3,.ii a0,.sl 1 (ar d6),.sl 17 (ar d9)]] (.bool true):=by subst a5 a7 a9 b2 c0 a6 a8 b0 b4 c8;simp only[js,im,py,bS,cE];exact qU A hA (⟨⟨⟨⟨((((bB A aZ aL).aN).Log).ba).aD,((((bB A aZ aL).aN).Log).ba).Cache⟩,a4,(((bB A aZ aL).aN).Log).Used,a1,a2,a3,a0⟩,((bB A aZ aL).aN).cW⟩,(bB A aZ aL).dg⟩:gv) (Lt hA aZ aL _ _ _ _ _) (by omega) (by omega) (by omega)
 refine fC l6 (.inl trivial) ?_;refine rn hA 3 ?_;refine ag 61 rfl (λsW=>?_) (λsW=>?_)
 ·
  exact ay sW (by subst hA;rfl)
 refine rz hA 4 ?_;refine gc (λpn=>?_) (λpn=>?_)
 ·
  exact ay pn (by subst hA;simp[aj])
 refine gk (gx hA 1 ?_);refine gs (gr (rn hA 2 ?_));have n0:uH (⟨⟨⟨⟨((((bB A aZ aL).aN).Log).ba).aD,((((bB A aZ aL).aN).Log).ba).Cache⟩,a4,(((bB A aZ aL).aN).Log).Used,a1,a2,a3,a0⟩,((bB A aZ aL).aN).cW⟩,(bB A aZ aL).dg⟩:gv)=aB (((((bB A aZ aL).aN).Log).ba).aD)+bh (((((bB A aZ aL).aN).Log).ba).Cache)+bK ((((bB A aZ aL).aN).Log).Used)+dC (((bB A aZ aL).aN).cW)+cK ((bB A aZ aL).dg):=rfl;obtain⟨f3,f5,f7,f4,f0,T8,g5,g0,g2,g3,g4,j2,k0⟩:∃(f3 f5 f7 f4 f0:RR) (T8:Int),f3=aaN ah (cD (1) (((((bB A aZ aL).aN).Log).ba).aD))/\f5=aaN aU (fM (1+aB (((((bB A aZ aL).aN).Log).ba).aD)) (((((bB A aZ aL).aN).Log).ba).Cache))/\f7=aaN bW (ft (1+aB (((((bB A aZ aL).aN).Log).ba).aD)+bh (((((bB A aZ aL).aN).Log).ba).Cache)) ((((bB A aZ aL).aN).Log).Used))/\f4=aaN bq (kY (1+aB (((((bB A aZ aL).aN).Log).ba).aD)+bh (((((bB A aZ aL).aN).Log).ba).Cache)+bK ((((bB A aZ aL).aN).Log).Used)) (((bB A aZ aL).aN).cW))/\f0=aaN gA (iZ (1+aB (((((bB A aZ aL).aN).Log).ba).aD)+bh (((((bB A aZ aL).aN).Log).ba).Cache)+bK ((((bB A aZ aL).aN).Log).Used)+dC (((bB A aZ aL).aN).cW)) ((bB A aZ aL).dg))/\T8=1+aB (((((bB A aZ aL).aN).Log).ba).aD)+bh (((((bB A aZ aL).aN).Log).ba).Cache)+bK ((((bB A aZ aL).aN).Log).Used)+dC (((bB A aZ aL).aN).cW)+cK ((bB A aZ aL).dg)/\fo Tryz.prog 11 [.agg [.ow 1 b3,.ow 2 b7,.ii a4,.ow 4 d2,.ii a1,.ii a2,.ii a3,.ii a0,.ow 1 d5,.ow 17 d8],.ii 1] [.agg [.ow 1 f3,.ow 2 f5,.ii a4,.ow 4 f7,.ii a1,.ii a2,.ii a3,.ii a0,.ow 1 f4,.ow 17 f0],.ii 1] (.ii T8):=⟨_,_,_,_,_,_,rfl,rfl,rfl,rfl,rfl,rfl,by subst a5 a7 a9 b2 c0;exact Cl A hA (⟨⟨⟨⟨((((bB A aZ aL).aN).Log).ba).aD,((((bB A aZ aL).aN).Log).ba).Cache⟩,a4,(((bB A aZ aL).aN).Log).Used,a1,a2,a3,a0⟩,((bB A aZ aL).aN).cW⟩,(bB A aZ aL).dg⟩:gv) 1 (by omega) (by omega) (by omega) (by omega) (by omega)⟩;have m7:=ab hA g5;have m1:=ab hA g0;have m8:=ab hA g2;have m3:=ab hA g3;have m6:=ab hA g4;have n4:=de (((((bB A aZ aL).aN).Log).ba).aD);have n7:=fw (((((bB A aZ aL).aN).Log).ba).Cache);have n8:=gM ((((bB A aZ aL).aN).Log).Used);have n2:=kN (((bB A aZ aL).aN).cW);have m9:=lz ((bB A aZ aL).dg);have o8:0<=T8:=by omega
 refine iJ rfl (by cbv) (by cbv) (by cbv) k0 rfl (by cbv) ?_;refine rz hA 1 ?_;refine gx hA 1 ?_;refine gs (gr (rn hA 2 ?_));have n6:uH (⟨⟨⟨⟨(((((bB A aZ aL).aN).Log).ba).aD),(((((bB A aZ aL).aN).Log).ba).Cache)⟩,a4,((((bB A aZ aL).aN).Log).Used),a1,a2,a3,a0⟩,(((bB A aZ aL).aN).cW)⟩,((bB A aZ aL).dg)⟩:gv)=aB (((((bB A aZ aL).aN).Log).ba).aD)+bh (((((bB A aZ aL).aN).Log).ba).Cache)+bK ((((bB A aZ aL).aN).Log).Used)+dC (((bB A aZ aL).aN).cW)+cK ((bB A aZ aL).dg):=rfl;obtain⟨WE,l5,l2⟩:∃ q:Int,q=1+aB (((((bB A aZ aL).aN).Log).ba).aD)+bh (((((bB A aZ aL).aN).Log).ba).Cache)+bK ((((bB A aZ aL).aN).Log).Used)+dC (((bB A aZ aL).aN).cW)+cK ((bB A aZ aL).dg)/\al 12 [.agg [.sl 1 (ar f3),.sl 2 (ar f5),.ii a4,.sl 4 (ar f7),.ii a1,.ii a2,.ii a3,.ii a0,.sl 1 (ar f4),.sl 17 (ar f0)],.ii 1] (.ii q):=⟨_,rfl,by
  subst g5 g0 g2 g3 g4;simp only[js,im,py,bS,cE];exact sZ A hA (⟨⟨⟨⟨(((((bB A aZ aL).aN).Log).ba).aD),(((((bB A aZ aL).aN).Log).ba).Cache)⟩,a4,((((bB A aZ aL).aN).Log).Used),a1,a2,a3,a0⟩,(((bB A aZ aL).aN).cW)⟩,((bB A aZ aL).dg)⟩:gv) 1 (by omega) (by omega) (by omega) (by omega) (by omega)⟩
 have l4:0<=WE:=by omega
 refine aH l2 (.inl trivial) ?_;refine rz hA 1 ?_;refine gs (gx hA 2 ?_);refine gc (λqS=>?_) (λqS=>?_)
 ·
  have j7:WE < 0:=aP hA qS;exact absurd j7 (abd.2 l4)
 have j7:0<=WE:=aQ hA qS;refine gk (gs (gx hA 3 ?_));refine gc (λuK=>?_) (λuK=>?_)
 ·
  exact ay uK (by subst hA;simp[aj,l5,j2])
 refine gk (gs (gr (rn hA 2 ?_)));obtain⟨j3,i1,k3⟩:=xq (mW A hA aL tV);have l8:=ab hA i1;refine aH k3 (.inr rfl) ?_ (hv:=by subst e0;rfl);obtain⟨e1,e2,e3,e4,e5,b1,b5,d0,d4,d7,l1⟩:=QO [.ii aZ,.sl 1 (ar j3)] (aaN ah (((((bB A aZ aL).aN).Log).ba).aD)) (aaN aU (((((bB A aZ aL).aN).Log).ba).Cache)) (aaN bW ((((bB A aZ aL).aN).Log).Used)) (aaN bq (((bB A aZ aL).aN).cW)) (aaN gA ((bB A aZ aL).dg)) a4 a1 a2 a3 a0 i0 (by subst d1;subst c6;subst c7;subst c9;subst b9;subst e7;subst i1;simp only[bS];exact uO A hA aZ aL (by assumption));have e8:=ab hA b1;have f6:=ab hA b5;have g7:=ab hA d0;have g9:=ab hA d4;have i6:=ab hA d7;refine aH l1 (.inl (by simp only[fresh,cj,b1,b5,d0,d4,d7,kc,nA,wU,dy,ev,and_self])) ?_;refine rz hA 6 ?_;refine gs (gs (gr (rn hA 2 ?_)));have k8:al 8 [.agg [.sl 1 (ar e1),.sl 2 (ar e2),.ii a4,.sl 4 (ar e3),.ii a1,.ii a2,.ii a3,.ii a0,.sl 1 (ar e4),.sl 17 (ar e5)],.agg [.sl 1 (ar b6),.sl 2 (ar b8),.ii a4,.sl 4 (ar d3),.ii a1,.ii a2,.ii a3,.ii a0,.sl 1 (ar d6),.sl 17 (ar d9)]] (.bool true):=by subst b1 b5 d0 d4 d7 a6 a8 b0 b4 c8;simp only[js,im,py,bS,cE];exact qU A hA (⟨⟨⟨⟨((((bB A aZ aL).aN).Log).ba).aD,((((bB A aZ aL).aN).Log).ba).Cache⟩,a4,(((bB A aZ aL).aN).Log).Used,a1,a2,a3,a0⟩,((bB A aZ aL).aN).cW⟩,(bB A aZ aL).dg⟩:gv) (Lt hA aZ aL _ _ _ _ _) (by omega) (by omega) (by omega)
 refine aH k8 (.inl trivial) ?_;refine rn hA 2 ?_;refine ag 88 rfl (λuL=>?_) (λuL=>?_)
 ·
  exact ay uL (by subst hA;rfl)
 refine rz hA 4 ?_;refine gc (λIz=>?_) (λIz=>?_)
 ·
  exact ay Iz (by subst hA;simp[aj])
 refine gk (gx hA 1 ?_);refine gs (gr (rn hA 2 ?_));have n5:uH (⟨⟨⟨⟨(((((bB A aZ aL).aN).Log).ba).aD),(((((bB A aZ aL).aN).Log).ba).Cache)⟩,a4,((((bB A aZ aL).aN).Log).Used),a1,a2,a3,a0⟩,(((bB A aZ aL).aN).cW)⟩,((bB A aZ aL).dg)⟩:gv)=aB (((((bB A aZ aL).aN).Log).ba).aD)+bh (((((bB A aZ aL).aN).Log).ba).Cache)+bK ((((bB A aZ aL).aN).Log).Used)+dC (((bB A aZ aL).aN).cW)+cK ((bB A aZ aL).dg):=rfl;obtain⟨WG,k7,k2⟩:∃ q:Int,q=1+aB (((((bB A aZ aL).aN).Log).ba).aD)+bh (((((bB A aZ aL).aN).Log).ba).Cache)+bK ((((bB A aZ aL).aN).Log).Used)+dC (((bB A aZ aL).aN).cW)+cK ((bB A aZ aL).dg)/\al 12 [.agg [.sl 1 (ar f3),.sl 2 (ar f5),.ii a4,.sl 4 (ar f7),.ii a1,.ii a2,.ii a3,.ii a0,.sl 1 (ar f4),.sl 17 (ar f0)],.ii 1] (.ii q):=⟨_,rfl,by
  subst g5 g0 g2 g3 g4;simp only[js,im,py,bS,cE];exact sZ A hA (⟨⟨⟨⟨(((((bB A aZ aL).aN).Log).ba).aD),(((((bB A aZ aL).aN).Log).ba).Cache)⟩,a4,((((bB A aZ aL).aN).Log).Used),a1,a2,a3,a0⟩,(((bB A aZ aL).aN).cW)⟩,((bB A aZ aL).dg)⟩:gv) 1 (by omega) (by omega) (by omega) (by omega) (by omega)⟩
 have k5:0<=WG:=by omega
 refine aH k2 (.inl trivial) ?_;refine rz hA 1 ?_;refine gs (gx hA 2 ?_);refine gc (λM4=>?_) (λM4=>?_)
 ·
  have j5:WG < 0:=aP hA M4;exact absurd j5 (abd.2 k5)
 have j5:0<=WG:=aQ hA M4;refine gk (gs (gx hA 3 ?_));refine gc (λE8=>?_) (λE8=>?_)
 ·
  exact ay E8 (by subst hA;simp[aj,k7,j2])
 refine gk (gx hA 1 ?_);refine rt (gt ?_);show _=(PV.bool true);rfl
end Go.Av

/- Lemmas and walks for FnExactServerNew: what each function of the program and of the reference comes to. -/
import Derived.Test.YtghokbigemmaaaaGreatJ3
import Derived.Test.YtghokbigemmaaaaGreatJ7
import Derived.Test.YtghokbigemmaaaaGreatJ1
open List renaming length→aaK,map→aaN,length_map→aaS,take_of_length_le→aaU,mem_append→aaV,mem_cons_of_mem→aaX,length_append→aaY,length_take→aa1,length_cons→aa5,take_add_one→aa6,take→aa8,mem_flatMap→abf,drop_of_length_le→abk,length_nil→abn,nil_append→abv,foldl_append→abP,length_filter_le→abX,filter_cons→ace,find?→acC,filter→acD
open ByteArray renaming empty→aaM
open Int renaming toNat→aaO,not_lt→abd
open Nat renaming zero_le→aaW
open Option renaming isSome→abB,toList_some→abT,getD→ab9
namespace Go.Av
open Go Go.Proofs
set_option maxRecDepth 100000
set_option maxHeartbeats 4000000
set_option linter.unusedVariables false
set_option linter.unusedSimpArgs false
theorem US {b:Option ae}{y:ae}(hy:y=b.getD jb)(hb:∀ x,b=some x->1<=x.Seq)(h:y.Seq=0):false=b.isSome:=by
 cases b with
 | none=>rfl
 | some z=>
  have h1:=hb z rfl;have hy:y=z:=hy;rw[hy] at h;omega
theorem vQ {b:Option ae}{y:ae}(hy:y=b.getD jb)(h:y.Seq≠0):true=b.isSome:=by
 cases b with
 | none=>rw[hy] at h;exact absurd rfl h
 | some z=>rfl
theorem vR {p:Int->Bool}{xs:List Int}{i:Nat}{x:Int}(h:xs[i]? =some x):(xs.take (i+1)).filter p=if p x=true then (xs.take i).filter p++[x] else (xs.take i).filter p:=by
 rw[aa6,h,abT,List.filter_append]
 by_cases hk:p x=true<;>simp[ace,hk]
theorem yO (p:Int->Bool)(xs:List Int)(i:Nat):((xs.take i).filter p).length<=xs.length:=by
 have h1:=abX p (xs.take i);rw[aa1] at h1;omega
theorem lb {v:Int}{xs:List ae}{i:Nat}{x:ae}(h:xs[i]? =some x):jZ v (xs.take (i+1))=max (jZ v (xs.take i)) (eT v x.Rec):=by
 rw[aa6,h];simp[jZ,abP]
theorem UT {r:aE}(h:bH r=true):0<=r.dG/\r.dG<=9999:=by
 simp only[bH,dm,Bool.and_eq_true,Bool.or_eq_true,decide_eq_true_eq] at h;omega
def Zh (p0:RR)(p1 p2 p3:Int)(p4:Bool)(p5 p6:Int)(p7:ByteArray)(p8 p9 fj fc ku ou:Int)(qP so Bd:ByteArray):St:={sl:=.sl 9 p0::.ii p1::.ii p2::.ii p3::iB++.pt 8 0 0::.aa::.pt 10 0 0::.bool p4::.ii p5::BM,bl:=[(8,⟨.var,9,[[.ii p6,.ii p6,.ii p6,.ii p6,.ii p6,.ii p6,.str p7,.str p7,.str p7]]⟩),(10,⟨.var,9,[[.ii p8,.ii p9,.ii fj,.ii fc,.ii ku,.ii ou,.str qP,.str so,.str Bd]]⟩)]}
theorem oQ (A:ax)(hA:A=aj)(xs:List ae)(k v u:Int)(hx:(aaK xs:Int)<=4611686018427387904):al 92 [.sl 9 (aaN aW xs),.ii k,.ii v,.ii u] (.aw [.agg (aW (ab9 (gm (dq k v u) dT xs) jb)),.bool (abB (gm (dq k v u) dT xs))]):=by
 obtain⟨a9,b2,b9⟩:=nr hA aW xs;refine ak (az:=[.sl 9 a9,.ii k,.ii v,.ii u]) (by subst b2;rfl) ?_;refine aY Tryz.func92 ?_;refine gx hA 2 ?_;refine gx hA 3 ?_;refine gx hA 1 ?_;refine gs (gx hA 1 ?_);refine af ?_;refine aF (λσ m=>∃(i:Nat) (n:Int) (fd:Bool) (q0 q1 q2 q3 q4 q5:Int) (q6 q7 q8:ByteArray),σ=(Zh a9 k v u fd n 0 aaM q0 q1 q2 q3 q4 q5 q6 q7 q8)/\(n=(i:Int)/\i<=aaK xs/\fd=abB (gm (dq k v u) dT (xs.take i))/\(⟨q0,⟨q1,q2,q3,q4,q5,q6,q7,q8⟩⟩:ae)=ab9 (gm (dq k v u) dT (xs.take i)) jb)/\m=aaK xs - i) _ [.up 10,.up 8] [0,1,2,3,8,10,11,12] [8,10] _ rfl (by cbv) ⟨0,0,false,0,0,0,0,0,0,aaM,aaM,aaM,rfl,?_,rfl⟩ (λσ m hI=>?_)
 ·
  exact⟨rfl,aaW _,rfl,rfl⟩
 obtain⟨i,n,fd,q0,q1,q2,q3,q4,q5,q6,q7,q8,rfl,⟨hn,hi,hF,hQ⟩,rfl⟩:=hI;refine gs (gx hA 4 ?_);refine gc (λc1=>?_) (λc1=>?_)
 ·
  have aV:n < (A.ao a9):=aP hA c1;refine gk (gs (af (gs (gr (rn hA 2 ?_)))));obtain⟨b5,c0,x2,cX,b8⟩:=ga xs n (by omega) (by omega);obtain⟨a8,⟨a3,a2,a1,a0,a4,a6,a7,a5⟩⟩:=x2;have b4:a9[(aaO n)]? =some [.ii a8,.ii a3,.ii a2,.ii a1,.ii a0,.ii a4,.str a6,.str a7,.str a5]:=by
   exact bC aW b2 cX
  have b0:=cX;rw[hn] at b0;have b0:(xs)[i]? =some (⟨a8,⟨a3,a2,a1,a0,a4,a6,a7,a5⟩⟩:ae):=b0;refine ee b5 b4 ?_;refine rz hA 3 ?_;refine gs (gr (rn hA 6 ?_));refine ag 30 rfl (λc3=>?_) (λc3=>?_)
  ·
   have cI:a3=k:=eE hA c3;refine rn hA 7 ?_;refine ag 37 rfl (λc4=>?_) (λc4=>?_)
   ·
    have du:a2=v:=eE hA c4;refine rn hA 7 ?_;refine ag 44 rfl (λc5=>?_) (λc5=>?_)
    ·
     have fu:a1=u:=eE hA c5;refine rn hA 3 ?_;refine ag 47 rfl (λc6=>?_) (λc6=>?_)
     ·
      have c7:fd=false:=ck hA c6;refine rz hA 7 ?_;refine gc (λc8=>?_) (λc8=>?_)
      ·
       refine gx hA 2 ?_;refine gy hA 1 ?_;refine gy hA 3 ?_;refine⟨_,_,?_,by cbv,i+1,(A.num .add .i64 n 1),true,a8,a3,a2,a1,a0,a4,a6,a7,a5,rfl,?_,rfl⟩
       ·
        omega
       have hp:dq k v u (ae.Rec (⟨a8,⟨a3,a2,a1,a0,a4,a6,a7,a5⟩⟩:ae))=true:=by simp[dq,bD,aV,cI,du,fu,c7]
       refine⟨by rw[au hA (by omega) (by omega)];omega,by omega,?_⟩;rw[gn b0];rw[xz hp (by rw[<- hF];exact Eq.symm (by assumption))];exact⟨rfl,rfl⟩
      exact cu c8 (by rfl)
     have c9:fd=true:=cm hA c6;refine rz hA 7 ?_;refine gc (λcB=>?_) (λcB=>?_)
     ·
      have b1:q0 < a8:=dJ hA cB;refine gx hA 2 ?_;refine gy hA 1 ?_;refine gy hA 3 ?_;refine⟨_,_,?_,by cbv,i+1,(A.num .add .i64 n 1),true,a8,a3,a2,a1,a0,a4,a6,a7,a5,rfl,?_,rfl⟩
      ·
       omega
      have hp:dq k v u (ae.Rec (⟨a8,⟨a3,a2,a1,a0,a4,a6,a7,a5⟩⟩:ae))=true:=by simp[dq,bD,aV,cI,du,fu,c9,b1]
      have hl:dT (⟨q0,⟨q1,q2,q3,q4,q5,q6,q7,q8⟩⟩:ae) (⟨a8,⟨a3,a2,a1,a0,a4,a6,a7,a5⟩⟩:ae)=true:=by simp[dT,aV,cI,du,fu,c9,b1]
      refine⟨by rw[au hA (by omega) (by omega)];omega,by omega,?_⟩;rw[gn b0];rw[xA hp (by rw[<- hF];exact Eq.symm (by assumption)) hQ hl];exact⟨rfl,rfl⟩
     have b1:a8<=q0:=dL hA cB;refine gk (gy hA 3 ?_);refine⟨_,_,?_,by cbv,i+1,(A.num .add .i64 n 1),fd,q0,q1,q2,q3,q4,q5,q6,q7,q8,rfl,?_,rfl⟩
     ·
      omega
     have hp:dq k v u (ae.Rec (⟨a8,⟨a3,a2,a1,a0,a4,a6,a7,a5⟩⟩:ae))=true:=by simp[dq,bD,aV,cI,du,fu,c9,b1,abd.2 b1]
     have hl:dT (⟨q0,⟨q1,q2,q3,q4,q5,q6,q7,q8⟩⟩:ae) (⟨a8,⟨a3,a2,a1,a0,a4,a6,a7,a5⟩⟩:ae)=false:=by simp[dT,aV,cI,du,fu,c9,b1,abd.2 b1]
     refine⟨by rw[au hA (by omega) (by omega)];omega,by omega,?_⟩;rw[gn b0];rw[xB (by rw[<- hF];exact Eq.symm (by assumption)) hQ hl];exact⟨hF,hQ⟩
    have fu:a1≠u:=eF hA c5;refine rz hA 10 ?_;refine gc (λcf=>?_) (λcf=>?_)
    ·
     exact ay cf (by rfl)
    refine gk (gy hA 3 ?_);refine⟨_,_,?_,by cbv,i+1,(A.num .add .i64 n 1),fd,q0,q1,q2,q3,q4,q5,q6,q7,q8,rfl,?_,rfl⟩
    ·
     omega
    have hp:dq k v u (ae.Rec (⟨a8,⟨a3,a2,a1,a0,a4,a6,a7,a5⟩⟩:ae))=false:=by simp[dq,bD,aV,cI,du,fu,fu.symm]
    refine⟨by rw[au hA (by omega) (by omega)];omega,by omega,?_⟩;rw[gn b0];rw[sn hp];exact⟨hF,hQ⟩
   have du:a2≠v:=eF hA c4;refine rz hA 17 ?_;refine gc (λcZ=>?_) (λcZ=>?_)
   ·
    exact ay cZ (by rfl)
   refine gk (gy hA 3 ?_);refine⟨_,_,?_,by cbv,i+1,(A.num .add .i64 n 1),fd,q0,q1,q2,q3,q4,q5,q6,q7,q8,rfl,?_,rfl⟩
   ·
    omega
   have hp:dq k v u (ae.Rec (⟨a8,⟨a3,a2,a1,a0,a4,a6,a7,a5⟩⟩:ae))=false:=by simp[dq,bD,aV,cI,du,du.symm]
   refine⟨by rw[au hA (by omega) (by omega)];omega,by omega,?_⟩;rw[gn b0];rw[sn hp];exact⟨hF,hQ⟩
  have cI:a3≠k:=eF hA c3;refine rz hA 24 ?_;refine gc (λeU=>?_) (λeU=>?_)
  ·
   exact ay eU (by rfl)
  refine gk (gy hA 3 ?_);refine⟨_,_,?_,by cbv,i+1,(A.num .add .i64 n 1),fd,q0,q1,q2,q3,q4,q5,q6,q7,q8,rfl,?_,rfl⟩
  ·
   omega
  have hp:dq k v u (ae.Rec (⟨a8,⟨a3,a2,a1,a0,a4,a6,a7,a5⟩⟩:ae))=false:=by simp[dq,bD,aV,cI,cI.symm]
  refine⟨by rw[au hA (by omega) (by omega)];omega,by omega,?_⟩;rw[gn b0];rw[sn hp];exact⟨hF,hQ⟩
 have aV:(A.ao a9)<=n:=aQ hA c1;refine aI (gE ?_);refine gx hA 4 ?_;refine rt (gt ?_);show _=PV.aw [.agg [.ii q0,.ii q1,.ii q2,.ii q3,.ii q4,.ii q5,.str q6,.str q7,.str q8],.bool fd];rw[aaU (by omega)] at hF hQ;rw[<- hF,<- hQ];rfl
def Zi (p0:RR)(p1 p2 p3:Int)(p4:ByteArray)(p5 p6 p7 p8 p9 fj:Int)(fc ku ou:ByteArray):St:={sl:=.sl 9 p0::.ii p1::.aa::.aa::.pt 4 0 0::.pt 5 0 0::.ii p2::yd,bl:=[(4,⟨.var,9,[[.ii p3,.ii p3,.ii p3,.ii p3,.ii p3,.ii p3,.str p4,.str p4,.str p4]]⟩),(5,⟨.var,9,[[.ii p5,.ii p6,.ii p7,.ii p8,.ii p9,.ii fj,.str fc,.str ku,.str ou]]⟩)]}
theorem GG (A:ax)(hA:A=aj)(xs:List ae)(v:Int)(hx:(aaK xs:Int)<=4611686018427387904)(hq:∀ x∈xs,1<=x.Seq):al 94 [.sl 9 (aaN aW xs),.ii v] (.agg (aW (ab9 (gm (bD 1 v) eP xs) jb))):=by
 obtain⟨a9,b2,b9⟩:=nr hA aW xs;refine ak (az:=[.sl 9 a9,.ii v]) (by subst b2;rfl) ?_;refine aY Tryz.func94 ?_;refine gx hA 1 ?_;refine gx hA 3 ?_;refine gs (gx hA 1 ?_);refine af ?_;refine aF (λσ m=>∃(i:Nat) (n q0 q1 q2 q3 q4 q5:Int) (q6 q7 q8:ByteArray),σ=(Zi a9 v n 0 aaM q0 q1 q2 q3 q4 q5 q6 q7 q8)/\(n=(i:Int)/\i<=aaK xs/\(⟨q0,⟨q1,q2,q3,q4,q5,q6,q7,q8⟩⟩:ae)=ab9 (gm (bD 1 v) eP (xs.take i)) jb)/\m=aaK xs - i) _ [.up 5,.up 4] [0,1,4,5,6] [4,5] _ rfl (by cbv) ⟨0,0,0,0,0,0,0,0,aaM,aaM,aaM,rfl,?_,rfl⟩ (λσ m hI=>?_)
 ·
  exact⟨rfl,aaW _,rfl⟩
 obtain⟨i,n,q0,q1,q2,q3,q4,q5,q6,q7,q8,rfl,⟨hn,hi,hQ⟩,rfl⟩:=hI;refine gs (gx hA 4 ?_);refine gc (λc1=>?_) (λc1=>?_)
 ·
  have aV:n < (A.ao a9):=aP hA c1;refine gk (gs (af (gs (gr (rn hA 2 ?_)))));obtain⟨b5,c0,x2,cX,b8⟩:=ga xs n (by omega) (by omega);obtain⟨a8,⟨a3,a2,a1,a0,a4,a6,a7,a5⟩⟩:=x2;have b4:a9[(aaO n)]? =some [.ii a8,.ii a3,.ii a2,.ii a1,.ii a0,.ii a4,.str a6,.str a7,.str a5]:=by
   exact bC aW b2 cX
  have b0:=cX;rw[hn] at b0;have b0:(xs)[i]? =some (⟨a8,⟨a3,a2,a1,a0,a4,a6,a7,a5⟩⟩:ae):=b0;refine ee b5 b4 ?_;refine rz hA 3 ?_;refine gs (gs (gr (rn hA 5 ?_)));refine ag 23 rfl (λc3=>?_) (λc3=>?_)
  ·
   have cI:a3≠1:=gp hA c3;refine rz hA 6 ?_;refine gc (λc4=>?_) (λc4=>?_)
   ·
    refine aI (gE ?_);refine gy hA 3 ?_;refine⟨_,_,?_,by cbv,i+1,(A.num .add .i64 n 1),q0,q1,q2,q3,q4,q5,q6,q7,q8,rfl,?_,rfl⟩
    ·
     omega
    have hp:bD 1 v (ae.Rec (⟨a8,⟨a3,a2,a1,a0,a4,a6,a7,a5⟩⟩:ae))=false:=by simp[bD,aV,cI,cI.symm]
    refine⟨by rw[au hA (by omega) (by omega)];omega,by omega,?_⟩;rw[gn b0];rw[sn hp];exact hQ
   exact cu c4 (by rfl)
  have cI:a3=1:=gq hA c3;refine rz hA 6 ?_;refine gc (λc5=>?_) (λc5=>?_)
  ·
   have fu:a2≠v:=gp hA c5;refine aI (gE ?_);refine gy hA 3 ?_;refine⟨_,_,?_,by cbv,i+1,(A.num .add .i64 n 1),q0,q1,q2,q3,q4,q5,q6,q7,q8,rfl,?_,rfl⟩
   ·
    omega
   have hp:bD 1 v (ae.Rec (⟨a8,⟨a3,a2,a1,a0,a4,a6,a7,a5⟩⟩:ae))=false:=by simp[bD,aV,cI,fu,fu.symm]
   refine⟨by rw[au hA (by omega) (by omega)];omega,by omega,?_⟩;rw[gn b0];rw[sn hp];exact hQ
  have fu:a2=v:=gq hA c5;refine gk (gs (gr (rn hA 4 ?_)));refine ag 33 rfl (λc6=>?_) (λc6=>?_)
  ·
   have cp:q0=0:=eE hA c6;refine rz hA 24 ?_;refine gc (λc7=>?_) (λc7=>?_)
   ·
    refine gy hA 2 ?_;refine gy hA 3 ?_;refine⟨_,_,?_,by cbv,i+1,(A.num .add .i64 n 1),a8,a3,a2,a1,a0,a4,a6,a7,a5,rfl,?_,rfl⟩
    ·
     omega
    have hp:bD 1 v (ae.Rec (⟨a8,⟨a3,a2,a1,a0,a4,a6,a7,a5⟩⟩:ae))=true:=by simp[bD,aV,cI,fu,cp]
    have hb:∀ x,gm (bD 1 v) eP (xs.take i)=some x->1<=x.Seq:=λx hx=>hq x (List.mem_of_mem_take (Cb hx).1);refine⟨by rw[au hA (by omega) (by omega)];omega,by omega,?_⟩;rw[gn b0];rw[xz hp (US hQ hb (show q0=0 by assumption))];rfl
   exact cu c7 (by rfl)
  have cp:q0≠0:=eF hA c6;refine rn hA 9 ?_;refine ag 42 rfl (λc8=>?_) (λc8=>?_)
  ·
   have gz:q4 < a0:=dJ hA c8;refine rz hA 15 ?_;refine gc (λc9=>?_) (λc9=>?_)
   ·
    refine gy hA 2 ?_;refine gy hA 3 ?_;refine⟨_,_,?_,by cbv,i+1,(A.num .add .i64 n 1),a8,a3,a2,a1,a0,a4,a6,a7,a5,rfl,?_,rfl⟩
    ·
     omega
    have hp:bD 1 v (ae.Rec (⟨a8,⟨a3,a2,a1,a0,a4,a6,a7,a5⟩⟩:ae))=true:=by simp[bD,aV,cI,fu,cp,cp.symm,gz]
    have hl:eP (⟨q0,⟨q1,q2,q3,q4,q5,q6,q7,q8⟩⟩:ae) (⟨a8,⟨a3,a2,a1,a0,a4,a6,a7,a5⟩⟩:ae)=true:=by
     show(if q4=a0 then decide (q0 < a8) else decide (q4 < a0))=true;split
     ·first | exact decide_eq_true (by omega) | (exfalso;omega)
     first | exact decide_eq_true (by omega) | (exfalso;omega)
    refine⟨by rw[au hA (by omega) (by omega)];omega,by omega,?_⟩;rw[gn b0];rw[xA hp (vQ hQ (show q0≠0 by assumption)) hQ hl];rfl
   exact cu c9 (by rfl)
  have gz:a0<=q4:=dL hA c8;refine rn hA 8 ?_;refine ag 50 rfl (λcB=>?_) (λcB=>?_)
  ·
   have b1:a0=q4:=eE hA cB;refine rz hA 7 ?_;refine gc (λcf=>?_) (λcf=>?_)
   ·
    have b3:q0 < a8:=dJ hA cf;refine gy hA 2 ?_;refine gy hA 3 ?_;refine⟨_,_,?_,by cbv,i+1,(A.num .add .i64 n 1),a8,a3,a2,a1,a0,a4,a6,a7,a5,rfl,?_,rfl⟩
    ·
     omega
    have hp:bD 1 v (ae.Rec (⟨a8,⟨a3,a2,a1,a0,a4,a6,a7,a5⟩⟩:ae))=true:=by simp[bD,aV,cI,fu,cp,cp.symm,gz,abd.2 gz,b1,b3]
    have hl:eP (⟨q0,⟨q1,q2,q3,q4,q5,q6,q7,q8⟩⟩:ae) (⟨a8,⟨a3,a2,a1,a0,a4,a6,a7,a5⟩⟩:ae)=true:=by
     show(if q4=a0 then decide (q0 < a8) else decide (q4 < a0))=true;split
     ·first | exact decide_eq_true (by omega) | (exfalso;omega)
     first | exact decide_eq_true (by omega) | (exfalso;omega)
    refine⟨by rw[au hA (by omega) (by omega)];omega,by omega,?_⟩;rw[gn b0];rw[xA hp (vQ hQ (show q0≠0 by assumption)) hQ hl];rfl
   have b3:a8<=q0:=dL hA cf;refine gk (gy hA 3 ?_);refine⟨_,_,?_,by cbv,i+1,(A.num .add .i64 n 1),q0,q1,q2,q3,q4,q5,q6,q7,q8,rfl,?_,rfl⟩
   ·
    omega
   have hp:bD 1 v (ae.Rec (⟨a8,⟨a3,a2,a1,a0,a4,a6,a7,a5⟩⟩:ae))=true:=by simp[bD,aV,cI,fu,cp,cp.symm,gz,abd.2 gz,b1,b3,abd.2 b3]
   have hl:eP (⟨q0,⟨q1,q2,q3,q4,q5,q6,q7,q8⟩⟩:ae) (⟨a8,⟨a3,a2,a1,a0,a4,a6,a7,a5⟩⟩:ae)=false:=by
    show(if q4=a0 then decide (q0 < a8) else decide (q4 < a0))=false;split
    ·first | exact decide_eq_false (by omega) | (exfalso;omega)
    first | exact decide_eq_false (by omega) | (exfalso;omega)
   refine⟨by rw[au hA (by omega) (by omega)];omega,by omega,?_⟩;rw[gn b0];rw[xB (vQ hQ (show q0≠0 by assumption)) hQ hl];exact hQ
  have b1:a0≠q4:=eF hA cB;refine rz hA 7 ?_;refine gc (λcZ=>?_) (λcZ=>?_)
  ·
   exact ay cZ (by rfl)
  refine gk (gy hA 3 ?_);refine⟨_,_,?_,by cbv,i+1,(A.num .add .i64 n 1),q0,q1,q2,q3,q4,q5,q6,q7,q8,rfl,?_,rfl⟩
  ·
   omega
  have hp:bD 1 v (ae.Rec (⟨a8,⟨a3,a2,a1,a0,a4,a6,a7,a5⟩⟩:ae))=true:=by simp[bD,aV,cI,fu,cp,cp.symm,gz,abd.2 gz,b1,b1.symm]
  have hl:eP (⟨q0,⟨q1,q2,q3,q4,q5,q6,q7,q8⟩⟩:ae) (⟨a8,⟨a3,a2,a1,a0,a4,a6,a7,a5⟩⟩:ae)=false:=by
   show(if q4=a0 then decide (q0 < a8) else decide (q4 < a0))=false;split
   ·first | exact decide_eq_false (by omega) | (exfalso;omega)
   first | exact decide_eq_false (by omega) | (exfalso;omega)
  refine⟨by rw[au hA (by omega) (by omega)];omega,by omega,?_⟩;rw[gn b0];rw[xB (vQ hQ (show q0≠0 by assumption)) hQ hl];exact hQ
 have aV:(A.ao a9)<=n:=aQ hA c1;refine aI (gE ?_);refine gx hA 2 ?_;refine rt (gt ?_);show _=(PV.agg [.ii q0,.ii q1,.ii q2,.ii q3,.ii q4,.ii q5,.str q6,.str q7,.str q8]);rw[aaU (by omega)] at hQ;rw[<- hQ];rfl
def Zj (p0:RR)(p1 p2:Int)(p3:RR):St:={sl:=.sl 1 p0::.ii p1::dV++.own 8::.ii p2::BM,bl:=[(8,⟨.arr,1,p3⟩)]}
def Zk (p0:RR)(p1 p2:Int)(p3:RR):St:={sl:=.sl 1 p0::.ii p1::dV++.own 8::.aa::.ii p2::NO,bl:=[(8,⟨.arr,1,p3⟩)]}
theorem uM (A:ax)(hA:A=aj)(xs:List Int)(z:Int)(hx:aaK xs<=1048576):al 93 [.sl 1 (aaN bq xs),.ii z] (.ow 1 (aaN bq (uI xs z))):=by
 obtain⟨a9,b2,b9⟩:=nr hA bq xs;refine ak (az:=[.sl 1 a9,.ii z]) (by subst b2;rfl) ?_;refine aY Tryz.func93 ?_;refine gx hA 1 ?_;refine gx hA 2 ?_;refine gs (gx hA 1 ?_);refine af ?_;refine aF (λσ m=>∃(i:Nat) (n:Int) (R:RR),σ=(Zj a9 z n R)/\(n=(i:Int)/\i<=aaK xs/\R=aaN bq (acD (λy=>decide (y < z)) (xs.take i)))/\m=aaK xs - i) _ [] [0,1,5,6] [8] _ rfl (by cbv) ⟨0,0,[],rfl,?_,rfl⟩ (λσ m hI=>?_)
 ·
  exact⟨rfl,aaW _,rfl⟩
 obtain⟨i,n,R,rfl,⟨hn,hi,hR⟩,rfl⟩:=hI;refine gs (gx hA 4 ?_);refine gc (λc1=>?_) (λc1=>?_)
 ·
  have aV:n < (A.ao a9):=aP hA c1;refine gk (gs (af (gs (gr (rn hA 2 ?_)))));obtain⟨b5,c0,x2,cX,b8⟩:=ga xs n (by omega) (by omega);have b4:a9[(aaO n)]? =some [.ii x2]:=by
   exact bC bq b2 cX
  have b0:=cX;rw[hn] at b0;have b0:(xs)[i]? =some x2:=b0;refine ee b5 b4 ?_;refine rz hA 3 ?_;refine gc (λc3=>?_) (λc3=>?_)
  ·
   have cI:x2 < z:=aP hA c3;refine gr (rn hA 3 ?_);refine ee b5 b4 ?_;refine rn hA 2 ?_;obtain⟨r4,gh⟩:=nm (R++[[.ii x2]]:RR);have vF:r4=aaN bq ((acD (λy=>decide (y < z)) (xs.take i))++([(x2:Int)])):=by rw[gh];exact cM hR (by rfl)
   have TR:=ab hA vF;refine ju gh ?_ (hl:=by
    show(aaK R+aaK ([[.ii x2]])) * _<=_;have h1:=yO (λy=>decide (y < z)) xs i;show(aaK R+1) * 8<=_;rw[hR,aaS];omega)
   refine rz hA 1 ?_;refine gy hA 3 ?_;refine⟨_,_,?_,by cbv,i+1,(A.num .add .i64 n 1),r4,rfl,?_,rfl⟩
   ·
    omega
   refine⟨by rw[au hA (by omega) (by omega)];omega,by omega,?_⟩;rw[vR b0,if_pos (by simp[aV,cI])];exact vF
  have cI:z<=x2:=aQ hA c3;refine gk (gy hA 3 ?_);refine⟨_,_,?_,by cbv,i+1,(A.num .add .i64 n 1),R,rfl,?_,rfl⟩
  ·
   omega
  refine⟨by rw[au hA (by omega) (by omega)];omega,by omega,?_⟩;rw[vR b0,if_neg (by simp[aV,cI,abd.2 cI])];exact hR
 have aV:(A.ao a9)<=n:=aQ hA c1;refine aI (gE ?_);refine gs (gr (rn hA 3 ?_));obtain⟨r5,kr⟩:=nm (R++[[.ii z]]:RR);have vG:r5=aaN bq ((acD (λy=>decide (y < z)) (xs.take i))++([(z:Int)])):=by rw[kr];exact cM hR (by rfl)
 have TS:=ab hA vG;refine ju kr ?_ (hl:=by
  show(aaK R+aaK ([[.ii z]])) * _<=_;have h1:=yO (λy=>decide (y < z)) xs i;show(aaK R+1) * 8<=_;rw[hR,aaS];omega)
 refine rz hA 1 ?_;refine gs (gx hA 1 ?_);refine af ?_;refine aF (λσ m=>∃(k:Nat) (n2:Int) (R2:RR),σ=(Zk a9 z n2 R2)/\(n2=(k:Int)/\k<=aaK xs/\R2=aaN bq (acD (λy=>decide (y < z)) xs++[z]++acD (λy=>decide (z < y)) (xs.take k)))/\m=aaK xs - k) _ [] [0,1,5,7] [8] _ rfl (by cbv) ⟨0,0,r5,rfl,?_,rfl⟩ (λσ m hI=>?_)
 ·
  refine⟨rfl,aaW _,?_⟩;rw[vG,aaU (by omega)];simp
 obtain⟨k,n2,R2,rfl,⟨hk,hkl,nW⟩,rfl⟩:=hI;refine gs (gx hA 4 ?_);refine gc (λc6=>?_) (λc6=>?_)
 ·
  have cp:n2 < (A.ao a9):=aP hA c6;refine gk (gs (af (gs (gr (rn hA 2 ?_)))));obtain⟨c2,d3,x7,ov,d2⟩:=ga xs n2 (by omega) (by omega);have d1:a9[(aaO n2)]? =some [.ii x7]:=by
   exact bC bq b2 ov
  have b6:=ov;rw[hk] at b6;have b6:(xs)[k]? =some x7:=b6;refine ee c2 d1 ?_;refine rz hA 3 ?_;refine gc (λc8=>?_) (λc8=>?_)
  ·
   have gz:z < x7:=dJ hA c8;refine gr (rn hA 3 ?_);refine ee c2 d1 ?_;refine rn hA 2 ?_;obtain⟨r9,pq⟩:=nm (R2++[[.ii x7]]:RR);have er9:r9=aaN bq ((acD (λy=>decide (y < z)) xs++[z]++acD (λy=>decide (z < y)) (xs.take k))++([(x7:Int)])):=by rw[pq];exact cM nW (by rfl)
   have lr9:=ab hA er9;refine ju pq ?_ (hl:=by
    show(aaK R2+aaK ([[.ii x7]])) * _<=_;have h1:=abX (λy:Int=>decide (y < z)) xs;have h2:=yO (λy=>decide (z < y)) xs k;show(aaK R2+1) * 8<=_;rw[nW,aaS,aaY,aaY];simp only[aa5,abn];omega)
   refine rz hA 1 ?_;refine gy hA 3 ?_;refine⟨_,_,?_,by cbv,k+1,(A.num .add .i64 n2 1),r9,rfl,?_,rfl⟩
   ·
    omega
   refine⟨by rw[au hA (by omega) (by omega)];omega,by omega,?_⟩;rw[vR b6,if_pos (by simp[aV,abd.2 aV,cp,gz])];rw[<- List.append_assoc];exact er9
  have gz:x7<=z:=dL hA c8;refine gk (gy hA 3 ?_);refine⟨_,_,?_,by cbv,k+1,(A.num .add .i64 n2 1),R2,rfl,?_,rfl⟩
  ·
   omega
  refine⟨by rw[au hA (by omega) (by omega)];omega,by omega,?_⟩;rw[vR b6,if_neg (by simp[aV,abd.2 aV,cp,gz,abd.2 gz])];exact nW
 have cp:(A.ao a9)<=n2:=aQ hA c6;refine aI (gE ?_);refine gx hA 2 ?_;refine rt (gt ?_);refine congrArg (PV.ow 1) ?_;rw[nW,aaU (by omega)];rfl
def Zl (p0:RR)(p1 p2 p3:Int):St:={sl:=.sl 9 p0::.ii p1::dV++.ii p2::.ii p3::NM,bl:=[]}
theorem GH (A:ax)(hA:A=aj)(xs:List ae)(v:Int)(hx:(aaK xs:Int)<=4611686018427387904)(hok:dY xs=true):al 95 [.sl 9 (aaN aW xs),.ii v] (.ii (jZ v xs)):=by
 obtain⟨a9,b2,b9⟩:=nr hA aW xs;refine ak (az:=[.sl 9 a9,.ii v]) (by subst b2;rfl) ?_;refine aY Tryz.func95 ?_;refine gx hA 1 ?_;refine gx hA 1 ?_;refine gs (gx hA 1 ?_);refine af ?_;refine aF (λσ m=>∃(i:Nat) (n mx:Int),σ=(Zl a9 v mx n)/\(n=(i:Int)/\i<=aaK xs/\mx=jZ v (xs.take i)/\1<=mx)/\m=aaK xs - i) _ [] [0,1,5,6] [] _ rfl (by cbv) ⟨0,0,1,rfl,?_,rfl⟩ (λσ m hI=>?_)
 ·
  exact⟨rfl,aaW _,rfl,by decide⟩
 obtain⟨i,n,mx,rfl,⟨hn,hi,hM,oZ⟩,rfl⟩:=hI;refine gs (gx hA 4 ?_);refine gc (λc1=>?_) (λc1=>?_)
 ·
  have aV:n < (A.ao a9):=aP hA c1;refine gk (gs (af (gs (gr (rn hA 2 ?_)))));obtain⟨b5,c0,x2,cX,b8⟩:=ga xs n (by omega) (by omega);obtain⟨a8,⟨a3,a2,a1,a0,a4,a6,a7,a5⟩⟩:=x2;have b4:a9[(aaO n)]? =some [.ii a8,.ii a3,.ii a2,.ii a1,.ii a0,.ii a4,.str a6,.str a7,.str a5]:=by
   exact bC aW b2 cX
  have b0:=cX;rw[hn] at b0;have b0:(xs)[i]? =some (⟨a8,⟨a3,a2,a1,a0,a4,a6,a7,a5⟩⟩:ae):=b0;have d0:=UT (vP hok b8);have d0:0<=a1/\a1<=9999:=d0;have wadd:A.num .add .i64 a1 1=a1+1:=au hA (by omega) (by omega);refine ee b5 b4 ?_;refine rz hA 4 ?_;refine gs (gx hA 4 ?_);refine gc (λc3=>?_) (λc3=>?_)
  ·
   have cI:a2≠v:=gp hA c3;refine aI (gE ?_);refine gy hA 3 ?_;refine⟨_,_,?_,by cbv,i+1,(A.num .add .i64 n 1),mx,rfl,?_,rfl⟩
   ·
    omega
   have hK:eT v (ae.Rec (⟨a8,⟨a3,a2,a1,a0,a4,a6,a7,a5⟩⟩:ae))=0:=by simp[eT,dU,bD,aV,cI,cI.symm]
   have px:max (jZ v (xs.take i)) (eT v (ae.Rec (⟨a8,⟨a3,a2,a1,a0,a4,a6,a7,a5⟩⟩:ae)))=mx:=by rw[hK,<- hM];omega
   refine⟨by rw[au hA (by omega) (by omega)];omega,by omega,by rw[lb b0,px],by omega⟩
  have cI:a2=v:=gq hA c3;refine gk (gx hA 1 ?_);refine gs (gx hA 2 ?_);refine af (gx hA 2 ?_);refine gc (λc4=>?_) (λc4=>?_)
  ·
   have du:a3=1:=eE hA c4;refine gy hA 3 ?_;refine gx hA 3 ?_;refine gc (λc5=>?_) (λc5=>?_)
   ·
    have fu:mx < a0:=dJ hA c5;refine gy hA 2 ?_;refine gy hA 3 ?_;refine⟨_,_,?_,by cbv,i+1,(A.num .add .i64 n 1),a0,rfl,?_,rfl⟩
    ·
     omega
    have hK:eT v (ae.Rec (⟨a8,⟨a3,a2,a1,a0,a4,a6,a7,a5⟩⟩:ae))=a0:=by simp[eT,dU,bD,aV,cI,du,fu]
    have px:max (jZ v (xs.take i)) (eT v (ae.Rec (⟨a8,⟨a3,a2,a1,a0,a4,a6,a7,a5⟩⟩:ae)))=a0:=by rw[hK,<- hM];omega
    refine⟨by rw[au hA (by omega) (by omega)];omega,by omega,by rw[lb b0,px],by omega⟩
   have fu:a0<=mx:=dL hA c5;refine gk (gy hA 3 ?_);refine⟨_,_,?_,by cbv,i+1,(A.num .add .i64 n 1),mx,rfl,?_,rfl⟩
   ·
    omega
   have hK:eT v (ae.Rec (⟨a8,⟨a3,a2,a1,a0,a4,a6,a7,a5⟩⟩:ae))=a0:=by simp[eT,dU,bD,aV,cI,du,fu,abd.2 fu]
   have px:max (jZ v (xs.take i)) (eT v (ae.Rec (⟨a8,⟨a3,a2,a1,a0,a4,a6,a7,a5⟩⟩:ae)))=mx:=by rw[hK,<- hM];omega
   refine⟨by rw[au hA (by omega) (by omega)];omega,by omega,by rw[lb b0,px],by omega⟩
  have du:a3≠1:=eF hA c4;refine gs (gx hA 2 ?_);refine gc (λc6=>?_) (λc6=>?_)
  ·
   have cp:a3=3:=eE hA c6;refine gk ?_;refine gc (λc7=>?_) (λc7=>?_)
   ·
    have jx:a3=3:=eE hA c7;refine gy hA 4 ?_;refine gx hA 3 ?_;refine gc (λc8=>?_) (λc8=>?_)
    ·
     have gz:mx < (A.num .add .i64 a1 1):=dJ hA c8;refine gy hA 2 ?_;refine gy hA 3 ?_;refine⟨_,_,?_,by cbv,i+1,(A.num .add .i64 n 1),(A.num .add .i64 a1 1),rfl,?_,rfl⟩
     ·
      omega
     have hK:eT v (ae.Rec (⟨a8,⟨a3,a2,a1,a0,a4,a6,a7,a5⟩⟩:ae))=a1+1:=by simp[eT,dU,bD,aV,cI,du,du.symm,cp,jx,gz]
     have px:max (jZ v (xs.take i)) (eT v (ae.Rec (⟨a8,⟨a3,a2,a1,a0,a4,a6,a7,a5⟩⟩:ae)))=(A.num .add .i64 a1 1):=by rw[hK,<- hM];omega
     refine⟨by rw[au hA (by omega) (by omega)];omega,by omega,by rw[lb b0,px],by omega⟩
    have gz:(A.num .add .i64 a1 1)<=mx:=dL hA c8;refine gk (gy hA 3 ?_);refine⟨_,_,?_,by cbv,i+1,(A.num .add .i64 n 1),mx,rfl,?_,rfl⟩
    ·
     omega
    have hK:eT v (ae.Rec (⟨a8,⟨a3,a2,a1,a0,a4,a6,a7,a5⟩⟩:ae))=a1+1:=by simp[eT,dU,bD,aV,cI,du,du.symm,cp,jx,gz,abd.2 gz]
    have px:max (jZ v (xs.take i)) (eT v (ae.Rec (⟨a8,⟨a3,a2,a1,a0,a4,a6,a7,a5⟩⟩:ae)))=mx:=by rw[hK,<- hM];omega
    refine⟨by rw[au hA (by omega) (by omega)];omega,by omega,by rw[lb b0,px],by omega⟩
   have jx:a3≠3:=eF hA c7;refine gk (gx hA 3 ?_);refine gc (λc9=>?_) (λc9=>?_)
   ·
    have po:mx < 0:=dJ hA c9;refine gy hA 2 ?_;refine gy hA 3 ?_;refine⟨_,_,?_,by cbv,i+1,(A.num .add .i64 n 1),0,rfl,?_,rfl⟩
    ·
     omega
    have hK:eT v (ae.Rec (⟨a8,⟨a3,a2,a1,a0,a4,a6,a7,a5⟩⟩:ae))=a1+1:=by simp[eT,dU,bD,aV,cI,du,du.symm,cp,jx,jx.symm,po]
    have px:max (jZ v (xs.take i)) (eT v (ae.Rec (⟨a8,⟨a3,a2,a1,a0,a4,a6,a7,a5⟩⟩:ae)))=0:=by rw[hK,<- hM];omega
    refine⟨by rw[au hA (by omega) (by omega)];omega,by omega,by rw[lb b0,px],by omega⟩
   have po:0<=mx:=dL hA c9;refine gk (gy hA 3 ?_);refine⟨_,_,?_,by cbv,i+1,(A.num .add .i64 n 1),mx,rfl,?_,rfl⟩
   ·
    omega
   have hK:eT v (ae.Rec (⟨a8,⟨a3,a2,a1,a0,a4,a6,a7,a5⟩⟩:ae))=a1+1:=by simp[eT,dU,bD,aV,cI,du,du.symm,cp,jx,jx.symm,po,abd.2 po]
   have px:max (jZ v (xs.take i)) (eT v (ae.Rec (⟨a8,⟨a3,a2,a1,a0,a4,a6,a7,a5⟩⟩:ae)))=mx:=by rw[hK,<- hM];omega
   refine⟨by rw[au hA (by omega) (by omega)];omega,by omega,by rw[lb b0,px],by omega⟩
  have cp:a3≠3:=eF hA c6;refine gy hA 2 ?_;refine gc (λcB=>?_) (λcB=>?_)
  ·
   have b1:a3=5:=eE hA cB;refine gy hA 4 ?_;refine gx hA 3 ?_;refine gc (λcf=>?_) (λcf=>?_)
   ·
    have b3:mx < (A.num .add .i64 a1 1):=dJ hA cf;refine gy hA 2 ?_;refine gy hA 3 ?_;refine⟨_,_,?_,by cbv,i+1,(A.num .add .i64 n 1),(A.num .add .i64 a1 1),rfl,?_,rfl⟩
    ·
     omega
    have hK:eT v (ae.Rec (⟨a8,⟨a3,a2,a1,a0,a4,a6,a7,a5⟩⟩:ae))=a1+1:=by simp[eT,dU,bD,aV,cI,du,du.symm,cp,cp.symm,b1,b3]
    have px:max (jZ v (xs.take i)) (eT v (ae.Rec (⟨a8,⟨a3,a2,a1,a0,a4,a6,a7,a5⟩⟩:ae)))=(A.num .add .i64 a1 1):=by rw[hK,<- hM];omega
    refine⟨by rw[au hA (by omega) (by omega)];omega,by omega,by rw[lb b0,px],by omega⟩
   have b3:(A.num .add .i64 a1 1)<=mx:=dL hA cf;refine gk (gy hA 3 ?_);refine⟨_,_,?_,by cbv,i+1,(A.num .add .i64 n 1),mx,rfl,?_,rfl⟩
   ·
    omega
   have hK:eT v (ae.Rec (⟨a8,⟨a3,a2,a1,a0,a4,a6,a7,a5⟩⟩:ae))=a1+1:=by simp[eT,dU,bD,aV,cI,du,du.symm,cp,cp.symm,b1,b3,abd.2 b3]
   have px:max (jZ v (xs.take i)) (eT v (ae.Rec (⟨a8,⟨a3,a2,a1,a0,a4,a6,a7,a5⟩⟩:ae)))=mx:=by rw[hK,<- hM];omega
   refine⟨by rw[au hA (by omega) (by omega)];omega,by omega,by rw[lb b0,px],by omega⟩
  have b1:a3≠5:=eF hA cB;refine gk (gx hA 3 ?_);refine gc (λcZ=>?_) (λcZ=>?_)
  ·
   have b7:mx < 0:=dJ hA cZ;refine gy hA 2 ?_;refine gy hA 3 ?_;refine⟨_,_,?_,by cbv,i+1,(A.num .add .i64 n 1),0,rfl,?_,rfl⟩
   ·
    omega
   have hK:eT v (ae.Rec (⟨a8,⟨a3,a2,a1,a0,a4,a6,a7,a5⟩⟩:ae))=0:=by simp[eT,dU,bD,aV,cI,du,du.symm,cp,cp.symm,b1,b1.symm,b7]
   have px:max (jZ v (xs.take i)) (eT v (ae.Rec (⟨a8,⟨a3,a2,a1,a0,a4,a6,a7,a5⟩⟩:ae)))=0:=by rw[hK,<- hM];omega
   refine⟨by rw[au hA (by omega) (by omega)];omega,by omega,by rw[lb b0,px],by omega⟩
  have b7:0<=mx:=dL hA cZ;refine gk (gy hA 3 ?_);refine⟨_,_,?_,by cbv,i+1,(A.num .add .i64 n 1),mx,rfl,?_,rfl⟩
  ·
   omega
  have hK:eT v (ae.Rec (⟨a8,⟨a3,a2,a1,a0,a4,a6,a7,a5⟩⟩:ae))=0:=by simp[eT,dU,bD,aV,cI,du,du.symm,cp,cp.symm,b1,b1.symm,b7,abd.2 b7]
  have px:max (jZ v (xs.take i)) (eT v (ae.Rec (⟨a8,⟨a3,a2,a1,a0,a4,a6,a7,a5⟩⟩:ae)))=mx:=by rw[hK,<- hM];omega
  refine⟨by rw[au hA (by omega) (by omega)];omega,by omega,by rw[lb b0,px],by omega⟩
 have aV:(A.ao a9)<=n:=aQ hA c1;refine aI (gE ?_);refine gx hA 2 ?_;refine rt (gt ?_);refine congrArg (PV.int .i64) ?_;rw[hM,aaU (by omega)]
theorem rJ {q:aE->Bool}{f:aE->Int}{xs:List ae}{i:Nat}{x:ae}(h:xs[i]? =some x):iO q f (xs.take (i+1))=if q x.Rec=true then uI (iO q f (xs.take i)) (f x.Rec) else iO q f (xs.take i):=by
 rw[aa6,h];simp[iO,lA,abP]
theorem SG (zs:List Int)(x:Int):(uI zs x).length<=zs.length+1:=by
 have main:∀ zs:List Int,(zs.filter λy=>decide (y < x)).length+(zs.filter λy=>decide (x < y)).length<=zs.length:=by
  intro zs
  induction zs with
  | nil=>simp
  | cons z zs ih=>
   simp only[ace,aa5]
   by_cases h1:z < x
   ·rw [if_pos (decide_eq_true h1),if_neg (by simp;omega)]
    simp only[aa5];omega
   by_cases h2:x < z
   ·rw [if_neg (by simpa using h1),if_pos (decide_eq_true h2)]
    simp only[aa5];omega
   rw[if_neg (by simpa using h1),if_neg (by simpa using h2)];omega
 have:=main zs;unfold uI;rw[aaY,aaY];simp only[aa5,abn];omega
theorem SH (q:aE->Bool)(f:aE->Int)(xs:List ae):(iO q f xs).length<=xs.length:=by
 have main:∀(xs:List ae) (s:List Int),(xs.foldl (lA q f) s).length<=s.length+xs.length:=by
  intro xs
  induction xs with
  | nil=>intro s;simp
  | cons x xs ih=>
   intro s;have h1:=ih (lA q f s x);have h2:(lA q f s x).length<=s.length+1:=by
    unfold lA;split
    ·exact SG s _
    omega
   rw[List.foldl_cons,aa5];omega
 have:=main xs []
 simpa [iO] using this
theorem xE (q:aE->Bool)(f:aE->Int)(xs:List ae)(i:Nat):(iO q f (xs.take i)).length<=xs.length:=by
 have h1:=SH q f (xs.take i);rw[aa1] at h1;omega
theorem Lr {β:Type}{f:Int->β}{us:List Int}{i:Nat}{u:Int}(h:us[i]? =some u):(us.take (i+1)).map f=(us.take i).map f++[f u]:=by
 rw[aa6,h];simp
def Zm (p0:RR)(p1 p2:Int)(p3:RR):St:={sl:=.sl 9 p0::.ii p1::dV++.own 17::.ii p2::YR,bl:=[(17,⟨.arr,1,p3⟩)]}
def Zn (p0:RR)(p1 p2:Int)(p3 p4:RR):St:={sl:=.sl 9 p0::.ii p1::dV++.own 17::iB++.own 54::.ii p2::YQ,bl:=[(17,⟨.arr,1,p3⟩),(54,⟨.arr,3,p4⟩)]}
theorem Fc (A:ax)(hA:A=aj)(xs:List ae)(v:Int)(hx:aaK xs<=1048576):al 96 [.sl 9 (aaN aW xs),.ii v] (.ow 3 (aaN fz (xy v xs))):=by
 obtain⟨a2,b7,r2⟩:=nr hA aW xs;refine ak (az:=[.sl 9 a2,.ii v]) (by subst b7;rfl) ?_;refine aY Tryz.func96 ?_;refine gx hA 1 ?_;refine gx hA 2 ?_;refine gs (gx hA 1 ?_);refine af ?_;refine aF (λσ m=>∃(i:Nat) (n:Int) (R:RR),σ=(Zm a2 v n R)/\(n=(i:Int)/\i<=aaK xs/\R=aaN bq (iO (kG v xs) aE.dG (xs.take i)))/\m=aaK xs - i) _ [.up 17] [0,1,5,6] [17] _ rfl (by cbv) ⟨0,0,[],rfl,?_,rfl⟩ (λσ m hI=>?_)
 ·
  exact⟨rfl,aaW _,rfl⟩
 obtain⟨i,n,R,rfl,⟨hn,hi,hR⟩,rfl⟩:=hI;have hul:=xE (kG v xs) aE.dG xs i;have lR:=ab hA hR;refine gs (gx hA 4 ?_);refine gc (λc1=>?_) (λc1=>?_)
 ·
  have aV:n < (A.ao a2):=aP hA c1;refine gk (gs (af (gs (gr (rn hA 2 ?_)))));obtain⟨s2,u0,x2,cX,t9⟩:=ga xs n (by omega) (by omega);obtain⟨e7,⟨a5,a4,a3,b2,a9,b1,b3,b0⟩⟩:=x2;have r5:a2[(aaO n)]? =some [.ii e7,.ii a5,.ii a4,.ii a3,.ii b2,.ii a9,.str b1,.str b3,.str b0]:=by
   exact bC aW b7 cX
  have f6:=cX;rw[hn] at f6;have f6:(xs)[i]? =some (⟨e7,⟨a5,a4,a3,b2,a9,b1,b3,b0⟩⟩:ae):=f6;refine ee s2 r5 ?_;refine rz hA 4 ?_;refine gs (gr (rn hA 4 ?_));obtain⟨r0,n5,l9,o0,n4,l5,m9,n6,m1,i7,q2,l0,j1,n1,k9,j2,j9,l4,k3,e8,cL⟩:=xC (oQ A hA xs 5 v a3 (by omega));refine aH cL (.inr rfl) ?_ (hv:=by subst b7;rfl);refine rz hA 6 ?_;refine gs (gr (rn hA 4 ?_));refine ag 40 rfl (λc5=>?_) (λc5=>?_)
  ·
   have fu:a5=3:=eE hA c5;refine rn hA 6 ?_;refine ag 46 rfl (λc6=>?_) (λc6=>?_)
   ·
    have cp:a4=v:=eE hA c6;refine rz hA 3 ?_;refine gc (λc7=>?_) (λc7=>?_)
    ·
     have c8:i7=false:=ck hA c7;refine gB (rn hA 3 ?_);obtain⟨o3,i2,s5⟩:=JS [.sl 1 (ar R),.ii a3] (aaN bq (uI (iO (kG v xs) aE.dG (xs.take i)) a3)) (by subst hR;simp only[js];exact uM A hA (iO (kG v xs) aE.dG (xs.take i)) a3 (by omega));have t0:=ab hA i2;refine aH s5 (.inl (by simp only[fresh,cj,i2,kc,and_self])) ?_;refine rn hA 1 ?_;refine bY (tw:=[.drop 17,.lr 53 17,.up 17,.up 8,.up 7]) (by cbv) ?_;refine gy hA 3 ?_;refine⟨_,_,?_,by cbv,i+1,(A.num .add .i64 n 1),o3,rfl,?_,rfl⟩
     ·
      omega
     have hQ:(kG v xs) (ae.Rec (⟨e7,⟨a5,a4,a3,b2,a9,b1,b3,b0⟩⟩:ae))=true:=by
      unfold kG;simp[bD,<- e8,aV,fu,cp,c8]
     refine⟨by rw[au hA (by omega) (by omega)];omega,by omega,?_⟩;rw[rJ f6,if_pos (by rw[hQ])];exact i2
    have cf:i7=true:=cm hA c7;refine gk (gy hA 3 ?_);refine⟨_,_,?_,by cbv,i+1,(A.num .add .i64 n 1),R,rfl,?_,rfl⟩
    ·
     omega
    have hQ:(kG v xs) (ae.Rec (⟨e7,⟨a5,a4,a3,b2,a9,b1,b3,b0⟩⟩:ae))=false:=by
     unfold kG;simp[bD,<- e8,aV,fu,cp,cf]
    refine⟨by rw[au hA (by omega) (by omega)];omega,by omega,?_⟩;rw[rJ f6,if_neg (by rw[hQ];decide)];exact hR
   have cp:a4≠v:=eF hA c6;refine rz hA 3 ?_;refine gc (λcZ=>?_) (λcZ=>?_)
   ·
    exact ay cZ (by rfl)
   refine gk (gy hA 3 ?_);refine⟨_,_,?_,by cbv,i+1,(A.num .add .i64 n 1),R,rfl,?_,rfl⟩
   ·
    omega
   have hQ:(kG v xs) (ae.Rec (⟨e7,⟨a5,a4,a3,b2,a9,b1,b3,b0⟩⟩:ae))=false:=by
    unfold kG;simp[bD,<- e8,aV,fu,cp,cp.symm]
   refine⟨by rw[au hA (by omega) (by omega)];omega,by omega,?_⟩;rw[rJ f6,if_neg (by rw[hQ];decide)];exact hR
  have fu:a5≠3:=eF hA c5;refine rz hA 9 ?_;refine gc (λeU=>?_) (λeU=>?_)
  ·
   exact ay eU (by rfl)
  refine gk (gy hA 3 ?_);refine⟨_,_,?_,by cbv,i+1,(A.num .add .i64 n 1),R,rfl,?_,rfl⟩
  ·
   omega
  have hQ:(kG v xs) (ae.Rec (⟨e7,⟨a5,a4,a3,b2,a9,b1,b3,b0⟩⟩:ae))=false:=by
   unfold kG;simp[bD,<- e8,aV,fu,fu.symm]
  refine⟨by rw[au hA (by omega) (by omega)];omega,by omega,?_⟩;rw[rJ f6,if_neg (by rw[hQ];decide)];exact hR
 have aV:(A.ao a2)<=n:=aQ hA c1;refine aI (gE ?_);refine gx hA 2 ?_;refine gs (gx hA 1 ?_);refine af ?_;refine aF (λσ m=>∃(k:Nat) (n2:Int) (R2:RR),σ=(Zn a2 v n2 R R2)/\(n2=(k:Int)/\k<=aaK (iO (kG v xs) aE.dG (xs.take i))/\R2=aaN fz (aaN (rW v xs) (aa8 k (iO (kG v xs) aE.dG (xs.take i)))))/\m=aaK (iO (kG v xs) aE.dG (xs.take i)) - k) _ [.up 54,.up 17] [0,1,5,10,11] [17,54] _ rfl (by cbv) ⟨0,0,[],rfl,?_,rfl⟩ (λσ m hI=>?_)
 ·
  exact⟨rfl,aaW _,rfl⟩
 obtain⟨k,n2,R2,rfl,⟨hk,hkl,nW⟩,rfl⟩:=hI;refine gs (gx hA 4 ?_);refine gc (λdF=>?_) (λdF=>?_)
 ·
  have s4:n2 < (A.ao R):=aP hA dF;refine gk (gs (af (gs (gr (rn hA 4 ?_)))));obtain⟨i9,t2,nO,q0,t4⟩:=ga (iO (kG v xs) aE.dG (xs.take i)) n2 (by omega) (by omega);have i8:R[(aaO n2)]? =some [.ii nO]:=by
   exact bC bq hR q0
  have g2:=q0;rw[hk] at g2;have g2:(iO (kG v xs) aE.dG (xs.take i))[k]? =some nO:=g2;have p7:n2 < (aaK R:Int):=by
   rw[hR,aaS];omega
  refine nH i9 p7 ?_;refine bO rfl rfl (jM rfl rfl rfl rfl i8 rfl) ?_;obtain⟨o8,l6,j0,m2,k0,a7,l8,k1,a0,s0,f0,e0,d2,e5,d4,d0,d9,e2,d7,g7,r8⟩:=xC (oQ A hA xs 3 v nO (by omega));refine aH r8 (.inr rfl) ?_ (hv:=by subst b7;rfl);refine rz hA 6 ?_;refine gs ?_;refine cR [0,1,2,3,4,5,6,7,8,9,10,11,12] (by cbv) ?_;refine cH hA 2 ?_;have i1:n2 < (aaK R:Int):=by
   rw[hR,aaS];omega
  refine dc rfl rfl (kO rfl rfl rfl rfl rfl rfl i9 i1 rfl) ?_;refine dc rfl rfl (jM rfl rfl rfl rfl i8 rfl) ?_;refine cH hA 9 ?_;refine cS (by cbv) ?_;refine gs (gr (rn hA 4 ?_));have p6:n2 < (aaK R:Int):=by
   rw[hR,aaS];omega
  refine nH i9 p6 ?_;refine bO rfl rfl (jM rfl rfl rfl rfl i8 rfl) ?_;obtain⟨o9,k7,j6,n0,k8,a6,l3,k6,k4,s3,e9,d6,d3,e4,d5,d1,d8,e1,e3,e6,r7⟩:=xC (oQ A hA xs 4 v nO (by omega));refine aH r7 (.inr rfl) ?_ (hv:=by subst b7;rfl);refine rz hA 6 ?_;refine gs (gx hA 1 ?_);refine gc (λjR=>?_) (λjR=>?_)
  ·
   refine gy hA 5 ?_;refine gr (rn hA 3 ?_);obtain⟨r24,q4⟩:=nm (R2++[[.ii nO,.ii a6,.str a0]]:RR);have q3:r24=aaN fz ((aaN (rW v xs) (aa8 k (iO (kG v xs) aE.dG (xs.take i))))++([(⟨nO,a6,a0⟩:gu)])):=by rw[q4];exact cM nW (by rfl)
   have t6:=ab hA q3;refine ju q4 ?_ (hl:=by
    show(aaK R2+aaK ([[.ii nO,.ii a6,.str a0]])) * _<=_;have h1:=xE (kG v xs) aE.dG xs i;show(aaK R2+1) * 32<=_;rw[nW,aaS,aaS,aa1];omega)
   refine rz hA 1 ?_;refine gy hA 3 ?_;refine⟨_,_,?_,by cbv,k+1,(A.num .add .i64 n2 1),r24,rfl,?_,rfl⟩
   ·
    omega
   have hM:rW v xs nO=(⟨nO,a6,a0⟩:gu):=by
    unfold rW B9;rw[if_pos (by rw[<- e6,jR])];simp only[f0,e0,d2,e5,d4,d0,d9,e2,d7,g7,e9,d6,d3,e4,d5,d1,d8,e1,e3,e6]
   refine⟨by rw[au hA (by omega) (by omega)];omega,by omega,?_⟩;rw[Lr g2,hM];exact q3
  refine gk (gr (rn hA 3 ?_));obtain⟨r25,q8⟩:=nm (R2++[[.ii nO,.ii a7,.str a0]]:RR);have p5:r25=aaN fz ((aaN (rW v xs) (aa8 k (iO (kG v xs) aE.dG (xs.take i))))++([(⟨nO,a7,a0⟩:gu)])):=by rw[q8];exact cM nW (by rfl)
  have t7:=ab hA p5;refine ju q8 ?_ (hl:=by
   show(aaK R2+aaK ([[.ii nO,.ii a7,.str a0]])) * _<=_;have h1:=xE (kG v xs) aE.dG xs i;show(aaK R2+1) * 32<=_;rw[nW,aaS,aaS,aa1];omega)
  refine rz hA 1 ?_;refine gy hA 3 ?_;refine⟨_,_,?_,by cbv,k+1,(A.num .add .i64 n2 1),r25,rfl,?_,rfl⟩
  ·
   omega
  have hM:rW v xs nO=(⟨nO,a7,a0⟩:gu):=by
   unfold rW B9;rw[if_neg (by rw[<- e6,jR];decide)];simp only[f0,e0,d2,e5,d4,d0,d9,e2,d7,g7,e9,d6,d3,e4,d5,d1,d8,e1,e3,e6]
  refine⟨by rw[au hA (by omega) (by omega)];omega,by omega,?_⟩;rw[Lr g2,hM];exact p5
 have s4:(A.ao R)<=n2:=aQ hA dF;refine aI (gE ?_);refine gx hA 2 ?_;refine rt (gt ?_);refine congrArg (PV.ow 3) ?_;rw[nW,aaU (by omega),aaU (by omega)];rfl
def Zo (p0:RR)(p1:Int)(p2:RR):St:={sl:=.sl 9 p0::.aa::.pt 2 0 0::.pt 3 0 0::.own 16::.ii p1::Tv,bl:=[(2,⟨.var,1,[[.zc]]⟩),(3,⟨.var,1,[[.zc]]⟩),(16,⟨.arr,1,p2⟩)]}
def Zp (p0:RR)(p1:Int)(p2 p3:RR):St:={sl:=.sl 9 p0::.aa::.pt 2 0 0::.pt 3 0 0::.own 16::iB++.ii p1::NQ,bl:=[(2,⟨.var,1,[[.zc]]⟩),(3,⟨.var,1,[[.own 7003]]⟩),(16,⟨.arr,1,p2⟩),(7003,⟨.arr,5,p3⟩)]}
theorem xF (A:ax)(hA:A=aj)(xs:List ae)(hz:∀ q∈il xs,q<=1048576):al 52 [.sl 9 (aaN aW xs)] (.agg (nz (kB xs))):=by
 obtain⟨a2,b7,r2⟩:=nr hA aW xs;refine ak (az:=[.sl 9 a2]) (by subst b7;rfl) ?_;have hx:aaK xs<=1048576:=hz _ (List.mem_cons_self ..);have WC:∀ q∈il xs,(q:Int)<=4611686018427387904:=λq hq=>by have:=hz q hq;omega
 refine aY Tryz.func52 ?_;refine gx hA 1 ?_;refine gx hA 3 ?_;refine gs (gs (gr (rn hA 1 ?_)));obtain⟨n8,i3,aJ⟩:=ib (xD A hA xs WC);refine aH aJ (.inr rfl) ?_ (hv:=by subst b7;rfl);refine rz hA 1 ?_;refine gc (λc3=>?_) (λc3=>?_)
 ·
  have c4:n8=false:=ck hA c3;refine gs (gB (rn hA 2 ?_));refine bY (tw:=[.cell 2 0 9001 5]) (by cbv) ?_;refine rt (gt ?_);show _=(PV.agg [.ow 5 ([])]);have hS:kB xs=⟨[]⟩:=by rw[kB,if_neg (by rw[<- i3,c4];decide)]
  rw[hS];rfl
 have c5:n8=true:=cm hA c3;refine gk (gs ?_);have hok:dY xs=true:=by rw[<- i3,c5]
 have hq:∀ x∈xs,1<=x.Seq:=λx hx=>(QN hok hx).1;refine gy hA 2 ?_;refine gs (gx hA 1 ?_);refine af ?_;refine aF (λσ m=>∃(i:Nat) (n:Int) (R:RR),σ=(Zo a2 n R)/\(n=(i:Int)/\i<=aaK xs/\R=aaN bq (iO (mu xs) aE.Valid (xs.take i)))/\m=aaK xs - i) _ [.up 16,.up 3,.up 2] [0,2,3,4,5] [2,3,16] _ rfl (by cbv) ⟨0,0,[],rfl,?_,rfl⟩ (λσ m hI=>?_)
 ·
  exact⟨rfl,aaW _,rfl⟩
 obtain⟨i,n,R,rfl,⟨hn,hi,hR⟩,rfl⟩:=hI;have hul:=xE (mu xs) aE.Valid xs i;have lR:=ab hA hR;refine gs (gx hA 4 ?_);refine gc (λc6=>?_) (λc6=>?_)
 ·
  have cp:n < (A.ao a2):=aP hA c6;refine gk (gs (af (gs (gr (rn hA 2 ?_)))));obtain⟨r3,u1,x7,ov,t5⟩:=ga xs n (by omega) (by omega);obtain⟨f1,⟨a8,a1,c9,b9,b6,c0,c2,b8⟩⟩:=x7;have r9:a2[(aaO n)]? =some [.ii f1,.ii a8,.ii a1,.ii c9,.ii b9,.ii b6,.str c0,.str c2,.str b8]:=by
   exact bC aW b7 ov
  have g4:=ov;rw[hn] at g4;have g4:(xs)[i]? =some (⟨f1,⟨a8,a1,c9,b9,b6,c0,c2,b8⟩⟩:ae):=g4;refine ee r3 r9 ?_;refine rz hA 4 ?_;refine gs (gr (rn hA 3 ?_));obtain⟨q9,m3,l7,o1,m4,k2,m7,m8,n3,i6,q5,l2,j4,n7,l1,j3,m0,j8,k5,f5,kA⟩:=xC (oQ A hA xs 2 a1 0 (by omega));refine aH kA (.inr rfl) ?_ (hv:=by subst b7;rfl);refine rz hA 6 ?_;refine gs (gr (rn hA 4 ?_));refine ag 38 rfl (λcB=>?_) (λcB=>?_)
  ·
   have i4:a8=1:=eE hA cB;refine rz hA 3 ?_;refine gc (λcf=>?_) (λcf=>?_)
   ·
    have cZ:i6=false:=ck hA cf;refine gB (rn hA 3 ?_);obtain⟨j7,g5,s7⟩:=JS [.sl 1 (ar R),.ii a1] (aaN bq (uI (iO (mu xs) aE.Valid (xs.take i)) a1)) (by subst hR;simp only[js];exact uM A hA (iO (mu xs) aE.Valid (xs.take i)) a1 (by omega));have s8:=ab hA g5;refine aH s7 (.inl (by simp only[fresh,cj,g5,kc,and_self])) ?_;refine rn hA 1 ?_;refine bY (tw:=[.drop 16,.lr 45 16,.up 16,.up 7,.up 6,.up 3,.up 2]) (by cbv) ?_;refine gy hA 3 ?_;refine⟨_,_,?_,by cbv,i+1,(A.num .add .i64 n 1),j7,rfl,?_,rfl⟩
    ·
     omega
    have hQ:(mu xs) (ae.Rec (⟨f1,⟨a8,a1,c9,b9,b6,c0,c2,b8⟩⟩:ae))=true:=by
     unfold mu;simp[gZ,<- f5,c5,cp,i4,cZ]
    refine⟨by rw[au hA (by omega) (by omega)];omega,by omega,?_⟩;rw[rJ g4,if_pos (by rw[hQ])];exact g5
   have eL:i6=true:=cm hA cf;refine gk (gy hA 3 ?_);refine⟨_,_,?_,by cbv,i+1,(A.num .add .i64 n 1),R,rfl,?_,rfl⟩
   ·
    omega
   have hQ:(mu xs) (ae.Rec (⟨f1,⟨a8,a1,c9,b9,b6,c0,c2,b8⟩⟩:ae))=false:=by
    unfold mu;simp[gZ,<- f5,c5,cp,i4,eL]
   refine⟨by rw[au hA (by omega) (by omega)];omega,by omega,?_⟩;rw[rJ g4,if_neg (by rw[hQ];decide)];exact hR
  have i4:a8≠1:=eF hA cB;refine rz hA 3 ?_;refine gc (λiA=>?_) (λiA=>?_)
  ·
   exact ay iA (by rfl)
  refine gk (gy hA 3 ?_);refine⟨_,_,?_,by cbv,i+1,(A.num .add .i64 n 1),R,rfl,?_,rfl⟩
  ·
   omega
  have hQ:(mu xs) (ae.Rec (⟨f1,⟨a8,a1,c9,b9,b6,c0,c2,b8⟩⟩:ae))=false:=by
   unfold mu;simp[gZ,<- f5,c5,cp,i4,i4.symm]
  refine⟨by rw[au hA (by omega) (by omega)];omega,by omega,?_⟩;rw[rJ g4,if_neg (by rw[hQ];decide)];exact hR
 have cp:(A.ao a2)<=n:=aQ hA c6;refine aI (gE ?_);refine gs (gx hA 1 ?_);refine af ?_;refine aF (λσ m=>∃(k:Nat) (n2:Int) (R2:RR),σ=(Zp a2 n2 R R2)/\(n2=(k:Int)/\k<=aaK (iO (mu xs) aE.Valid (xs.take i))/\R2=aaN eA (aaN (Bb xs) (aa8 k (iO (mu xs) aE.Valid (xs.take i)))))/\m=aaK (iO (mu xs) aE.Valid (xs.take i)) - k) _ [.cell 3 0 7003 5,.up 7003,.up 16,.up 3,.up 2] [0,2,3,4,9] [2,3,16,7003] _ rfl (by cbv) ⟨0,0,[],rfl,?_,rfl⟩ (λσ m hI=>?_)
 ·
  exact⟨rfl,aaW _,rfl⟩
 obtain⟨k,n2,R2,rfl,⟨hk,hkl,nW⟩,rfl⟩:=hI;refine gs (gx hA 4 ?_);refine gc (λgG=>?_) (λgG=>?_)
 ·
  have r4:n2 < (A.ao R):=aP hA gG;refine gk (gs (af (gs (gr (rn hA 3 ?_)))));obtain⟨i0,t1,zF,p8,t3⟩:=ga (iO (mu xs) aE.Valid (xs.take i)) n2 (by omega) (by omega);have g9:R[(aaO n2)]? =some [.ii zF]:=by
   exact bC bq hR p8
  have g8:=p8;rw[hk] at g8;have g8:(iO (mu xs) aE.Valid (xs.take i))[k]? =some zF:=g8;have i1:n2 < (aaK R:Int):=by
   rw[hR,aaS];omega
  refine nH i0 i1 ?_;refine bO rfl rfl (jM rfl rfl rfl rfl g9 rfl) ?_;obtain⟨r1,o4,m5,o6,o2,m6,b4,b5,n9,i5,f7,f2,g3,g0,f3,f8,f4,f9,r6⟩:=rn6 (GG A hA xs zF (by omega) hq);refine aH r6 (.inr rfl) ?_ (hv:=by subst b7;rfl);refine rz hA 2 ?_;refine cR [0,1,2,3,4,5,6,7,8,9,10,11,12,13,14,15,16,17,18,19,20,21,22,23,24,25,26,27,28] (by cbv) ?_;refine cH hA 4 ?_;have o7:n2 < (aaK R:Int):=by
   rw[hR,aaS];omega
  refine dc rfl rfl (kO rfl rfl rfl rfl rfl rfl i0 o7 rfl) ?_;refine dc rfl rfl (jM rfl rfl rfl rfl g9 rfl) ?_;refine cH hA 9 ?_;have q1:n2 < (aaK R:Int):=by
   rw[hR,aaS];omega
  refine dc rfl rfl (kO rfl rfl rfl rfl rfl rfl i0 q1 rfl) ?_;refine dc rfl rfl (jM rfl rfl rfl rfl g9 rfl) ?_;obtain⟨g1,o5,s6⟩:=tb (GH A hA xs zF (by omega) hok);refine CG s6 (.inr rfl) ?_ (hv:=by subst b7;rfl);refine cH hA 3 ?_;have p9:n2 < (aaK R:Int):=by
   rw[hR,aaS];omega
  refine dc rfl rfl (kO rfl rfl rfl rfl rfl rfl i0 p9 rfl) ?_;refine dc rfl rfl (jM rfl rfl rfl rfl g9 rfl) ?_;obtain⟨j5,g6,s1⟩:=xq (Fc A hA xs zF (by omega));have s9:=ab hA g6;refine nc s1 (.inr rfl) ?_ (hv:=by subst b7;rfl);refine cH hA 2 ?_;obtain⟨r29,q6⟩:=nm (R2++[[.ii zF,.str b4,.str b5,.ii g1,.ow 3 j5]]:RR);have q7:r29=aaN eA ((aaN (Bb xs) (aa8 k (iO (mu xs) aE.Valid (xs.take i))))++([(⟨zF,b4,b5,g1,xy zF xs⟩:aT)])):=by rw[q6];exact cM nW (by simp only[g6];rfl)
  have t8:=ab hA q7;refine iF rfl rfl rfl rfl rfl rfl rfl (ij rfl rfl rfl rfl rfl rfl rfl rfl q6 (by cbv) (by cbv) (by cbv) rfl (by
   show(aaK R2+aaK ([[.ii zF,.str b4,.str b5,.ii g1,.ow 3 j5]])) * _<=_;have h1:=xE (mu xs) aE.Valid xs i;show(aaK R2+1) * 72<=_;rw[nW,aaS,aaS,aa1];omega) (by decide) (by decide)) ?_
  refine cH hA 2 ?_;refine cS (by cbv) ?_;refine gy hA 3 ?_;refine⟨_,_,?_,by cbv,k+1,(A.num .add .i64 n2 1),r29,rfl,?_,rfl⟩
  ·
   omega
  have hM:Bb xs zF=(⟨zF,b4,b5,g1,xy zF xs⟩:aT):=by
   unfold Bb;simp only[i3,i5,f7,f2,g3,g0,f3,f8,f4,f9,o5,g6]
  refine⟨by rw[au hA (by omega) (by omega)];omega,by omega,?_⟩;rw[Lr g8,hM];exact q7
 have r4:(A.ao R)<=n2:=aQ hA gG;refine aI (gE ?_);refine gx hA 2 ?_;refine rt (gt ?_);show _=(PV.agg [.ow 5 R2]);have hS:E5 xs=⟨E4 xs⟩:=by rw[E5,if_pos hok]
 rw[aaU (by omega),aaU (by omega)] at nW;rw[<- SI,hS];simp only[nW];rfl
def Zq (p0:RR)(p1 p2:Int)(p3:RR):St:={sl:=dV++.own 6::iB++.sl 4 p0::.ii p1::.ii p2::F4,bl:=[(6,⟨.arr,9,p3⟩)]}
theorem rK (A:ax)(hA:A=aj)(x:bF)(hz:∀ q∈fg x,q<=1048576)(hil:(bm x.Used).length<=1048576):al 66 [.agg (mT x)] (.ow 9 (aaN da (bm x.Used))):=by
 obtain⟨⟨a2,a3⟩,c0,a0,b2,b1,b7,a9⟩:=x;obtain⟨a4,b0,c4⟩:=nr hA ah a2;obtain⟨a6,b4,c6⟩:=nr hA bn a3;obtain⟨a1,b5,d1⟩:=nr hA cA a0;refine ak (az:=[.agg [.sl 1 a4,.sl 2 a6,.ii c0,.sl 4 a1,.ii b2,.ii b1,.ii b7,.ii a9]]) (by subst b0 b4 b5;rfl) ?_;have b9:∀ q∈db (⟨a2,a3⟩:bj),q<=1048576:=λq hq=>hz q (by simp only[fg,aaV];simp only[hq,true_or,or_true]);have b3:∀ q∈bR a2,q<=1048576:=λq hq=>b9 q (by simp only[db,aaV];simp only[hq,true_or,or_true]);have c5:aaK a2<=1048576:=b3 _ (by simp[bR]);have b6:∀ q∈dX a3,q<=1048576:=λq hq=>b9 q (by simp only[db,aaV];simp only[hq,true_or,or_true]);have c9:aaK a3<=1048576:=b6 _ (by simp[dX]);have c8:∀ q∈gl a0,q<=1048576:=λq hq=>hz q (by simp only[fg,aaV];simp only[hq,true_or,or_true]);have d4:aaK a0<=1048576:=c8 _ (by simp[gl]);have hil:(bm a0).length<=1048576:=hil;refine aY Tryz.func66 ?_;refine gx hA 2 ?_;refine gx hA 2 ?_;refine gs (gx hA 4 ?_);refine af ?_;refine aF (λσ m=>∃(i:Nat) (n:Int) (R:RR),σ=(Zq a1 (A.ao a1) n R)/\(n=(i:Int)/\i<=aaK a0/\R=aaN da (bm (a0.take i)))/\m=aaK a0 - i) _ [.up 6,.up 1] [3,8,9,10] [6] _ rfl (by cbv) ⟨0,0,[],rfl,?_,rfl⟩ (λσ m hI=>?_)
 ·
  exact⟨rfl,aaW _,rfl⟩
 obtain⟨i,n,R,rfl,⟨hn,hi,hR⟩,rfl⟩:=hI;refine gx hA 1 ?_;refine gs ?_;refine gc (λc1=>?_) (λc1=>?_)
 ·
  have aV:n < (A.ao a1):=aP hA c1;refine gk (gs (af (gs (gr ?_))));obtain⟨d2,d5,x2,cX,d6⟩:=ga a0 n (by omega) (by omega);obtain⟨c7,c2,c3,a8⟩:=x2;obtain⟨a5,a7,d0⟩:=nr hA aW a8;have d3:a1[(aaO n)]? =some [.ii c7,.ii c2,.ii c3,.sl 9 a5]:=by
   subst a7;exact bC cA b5 cX
  have b8:=cX;rw[hn] at b8;have b8:(a0)[i]? =some (⟨c7,c2,c3,a8⟩:bu):=b8;refine ee d2 d3 ?_;refine rz hA 3 ?_;refine gr (rn hA 3 ?_);obtain⟨r3,dS⟩:=nm (R++a5:RR);have jv:r3=aaN da ((bm (a0.take i))++a8):=by rw[dS];exact cM hR a7
  have AR:=ab hA jv;refine ju dS ?_ (hl:=by
   show(aaK R+aaK a5) * _<=_;have h1:=IC a0 (i+1);rw[vS b8,aaY] at h1;have h1:(bm (a0.take i)).length+aaK a8<=(bm a0).length:=h1;show(aaK R+aaK a5) * 96<=_;rw[hR,a7,aaS,aaS];omega)
  refine rz hA 1 ?_;refine gy hA 2 ?_;refine⟨_,_,?_,by cbv,i+1,(A.num .add .i64 n 1),r3,rfl,?_,rfl⟩
  ·
   omega
  refine⟨by rw[au hA (by omega) (by omega)];omega,by omega,?_⟩;rw[vS b8];exact jv
 have aV:(A.ao a1)<=n:=aQ hA c1;refine aI (gE ?_);refine gx hA 2 ?_;refine rt (gt ?_);refine congrArg (PV.ow 9) ?_;rw[hR,aaU (by omega)]
def Zr (p0:Int)(p1 p2:RR)(p3:Int)(p4:RR)(p5 p6 p7 p8:Int)(p9:RR):St:={sl:=.aa::.pt 1 0 0::.aa::.own 5::.ii p0::BJ,bl:=[(1,⟨.var,8,[[.sl 1 p1,.sl 2 p2,.ii p3,.sl 4 p4,.ii p5,.ii p6,.ii p7,.ii p8]]⟩),(5,⟨.arr,9,p9⟩)]}
theorem rL (A:ax)(hA:A=aj)(x:bF)(hz:∀ q∈fg x,q<=1048576)(hil:(bm x.Used).length<=1048576):al 53 [.agg (mT x)] (.ow 9 (aaN da (bm x.Used))):=by
 obtain⟨⟨a2,a3⟩,c0,a0,b2,b1,b7,a9⟩:=x;obtain⟨a4,b0,c4⟩:=nr hA ah a2;obtain⟨a6,b4,c6⟩:=nr hA bn a3;obtain⟨a1,b5,d1⟩:=nr hA cA a0;refine ak (az:=[.agg [.sl 1 a4,.sl 2 a6,.ii c0,.sl 4 a1,.ii b2,.ii b1,.ii b7,.ii a9]]) (by subst b0 b4 b5;rfl) ?_;have b9:∀ q∈db (⟨a2,a3⟩:bj),q<=1048576:=λq hq=>hz q (by simp only[fg,aaV];simp only[hq,true_or,or_true]);have b3:∀ q∈bR a2,q<=1048576:=λq hq=>b9 q (by simp only[db,aaV];simp only[hq,true_or,or_true]);have c5:aaK a2<=1048576:=b3 _ (by simp[bR]);have b6:∀ q∈dX a3,q<=1048576:=λq hq=>b9 q (by simp only[db,aaV];simp only[hq,true_or,or_true]);have c9:aaK a3<=1048576:=b6 _ (by simp[dX]);have c8:∀ q∈gl a0,q<=1048576:=λq hq=>hz q (by simp only[fg,aaV];simp only[hq,true_or,or_true]);have d4:aaK a0<=1048576:=c8 _ (by simp[gl]);have hil:(bm a0).length<=1048576:=hil;refine aY Tryz.func53 ?_;refine gx hA 2 ?_;refine gx hA 2 ?_;refine gs (gx hA 1 ?_);refine af ?_;refine aF (λσ m=>∃(i:Nat) (n:Int) (R:RR),σ=(Zr n a4 a6 c0 a1 b2 b1 b7 a9 R)/\(n=(i:Int)/\i<=aaK a0/\R=aaN da (bm (a0.take i)))/\m=aaK a0 - i) _ [.up 5,.up 1] [1,3,4] [1,5] _ rfl (by cbv) ⟨0,0,[],rfl,?_,rfl⟩ (λσ m hI=>?_)
 ·
  exact⟨rfl,aaW _,rfl⟩
 obtain⟨i,n,R,rfl,⟨hn,hi,hR⟩,rfl⟩:=hI;refine gs (gx hA 5 ?_);refine gc (λc1=>?_) (λc1=>?_)
 ·
  have aV:n < (A.ao a1):=aP hA c1;refine gk (gs (af (gr (rn hA 4 ?_))));obtain⟨d2,d5,x2,cX,d6⟩:=ga a0 n (by omega) (by omega);obtain⟨c7,c2,c3,a8⟩:=x2;obtain⟨a5,a7,d0⟩:=nr hA aW a8;have d3:a1[(aaO n)]? =some [.ii c7,.ii c2,.ii c3,.sl 9 a5]:=by
   subst a7;exact bC cA b5 cX
  have b8:=cX;rw[hn] at b8;have b8:(a0)[i]? =some (⟨c7,c2,c3,a8⟩:bu):=b8;refine ee d2 d3 ?_;refine rn hA 2 ?_;obtain⟨r3,dS⟩:=nm (R++a5:RR);have jv:r3=aaN da ((bm (a0.take i))++a8):=by rw[dS];exact cM hR a7
  have AR:=ab hA jv;refine ju dS ?_ (hl:=by
   show(aaK R+aaK a5) * _<=_;have h1:=IC a0 (i+1);rw[vS b8,aaY] at h1;have h1:(bm (a0.take i)).length+aaK a8<=(bm a0).length:=h1;show(aaK R+aaK a5) * 96<=_;rw[hR,a7,aaS,aaS];omega)
  refine rz hA 1 ?_;refine gy hA 3 ?_;refine⟨_,_,?_,by cbv,i+1,(A.num .add .i64 n 1),r3,rfl,?_,rfl⟩
  ·
   omega
  refine⟨by rw[au hA (by omega) (by omega)];omega,by omega,?_⟩;rw[vS b8];exact jv
 have aV:(A.ao a1)<=n:=aQ hA c1;refine aI (gE ?_);refine gx hA 2 ?_;refine rt (gt ?_);refine congrArg (PV.ow 9) ?_;rw[hR,aaU (by omega)]
theorem Fe (A:ax)(hA:A=aj)(x:aK)(hz:∀ q∈fK x,q<=1048576)(hil:(bm x.Log.Used).length<=1048576):al 31 [.agg (iv x)] (.agg (nz (kB (bm x.Log.Used)))):=by
 obtain⟨⟨⟨a0,a1⟩,b0,a2,a7,a6,a9,a4⟩,b8⟩:=x;obtain⟨b1,a3,c0⟩:=nr hA ah a0;obtain⟨b4,a5,c4⟩:=nr hA bn a1;obtain⟨b9,b2,d0⟩:=nr hA cA a2;obtain⟨c7,c1,d3⟩:=nr hA bq b8;refine ak (az:=[.agg [.sl 1 b1,.sl 2 b4,.ii b0,.sl 4 b9,.ii a7,.ii a6,.ii a9,.ii a4,.sl 1 c7]]) (by subst a3 a5 b2 c1;rfl) ?_;have c6:∀ q∈fg (⟨⟨a0,a1⟩,b0,a2,a7,a6,a9,a4⟩:bF),q<=1048576:=λq hq=>hz q (by simp only[fK,aaV];simp only[hq,true_or,or_true]);have b7:∀ q∈db (⟨a0,a1⟩:bj),q<=1048576:=λq hq=>c6 q (by simp only[fg,aaV];simp only[hq,true_or,or_true]);have b3:∀ q∈bR a0,q<=1048576:=λq hq=>b7 q (by simp only[db,aaV];simp only[hq,true_or,or_true]);have c5:aaK a0<=1048576:=b3 _ (by simp[bR]);have b5:∀ q∈dX a1,q<=1048576:=λq hq=>b7 q (by simp only[db,aaV];simp only[hq,true_or,or_true]);have c8:aaK a1<=1048576:=b5 _ (by simp[dX]);have b6:∀ q∈gl a2,q<=1048576:=λq hq=>c6 q (by simp only[fg,aaV];simp only[hq,true_or,or_true]);have d2:aaK a2<=1048576:=b6 _ (by simp[gl]);have c9:∀ q∈jS b8,q<=1048576:=λq hq=>hz q (by simp only[fK,aaV];simp only[hq,true_or,or_true]);have d4:aaK b8<=1048576:=c9 _ (by simp[jS]);have hil:(bm a2).length<=1048576:=hil;have hzs:=Bj b6 hil;refine aY Tryz.func31 ?_;refine gx hA 2 ?_;refine gs (gr (rn hA 2 ?_));obtain⟨d5,c3,aJ⟩:=qL (aaN da (bm a2)) (rK A hA (⟨⟨a0,a1⟩,b0,a2,a7,a6,a9,a4⟩:bF) (by assumption) hil);have d6:=ab hA c3;refine aH aJ (.inr rfl) ?_ (hv:=by subst a3 a5 b2;rfl);obtain⟨c2,a8,cL⟩:=AW [.sl 9 (ar d5)] (aaN eA ((kB (bm a2)).fF)) (by subst c3;simp only[kj];exact GF A hA (bm a2) hzs);have d1:=ab hA a8;refine aH cL (.inl (by simp only[fresh,cj,a8,B4,and_self])) ?_;refine rz hA 1 ?_;refine rt (gt ?_);show _=(PV.agg [.ow 5 c2]);simp only[c3,a8];rfl
theorem Ff (A:ax)(hA:A=aj)(x:aK)(hz:∀ q∈fK x,q<=1048576)(hil:(bm x.Log.Used).length<=1048576):al 26 [.agg (iv x)] (.agg (nz (kB (bm x.Log.Used)))):=by
 obtain⟨⟨⟨a0,a1⟩,b0,a2,a7,a6,a9,a4⟩,b8⟩:=x;obtain⟨b1,a3,c0⟩:=nr hA ah a0;obtain⟨b4,a5,c4⟩:=nr hA bn a1;obtain⟨b9,b2,d0⟩:=nr hA cA a2;obtain⟨c7,c1,d3⟩:=nr hA bq b8;refine ak (az:=[.agg [.sl 1 b1,.sl 2 b4,.ii b0,.sl 4 b9,.ii a7,.ii a6,.ii a9,.ii a4,.sl 1 c7]]) (by subst a3 a5 b2 c1;rfl) ?_;have c6:∀ q∈fg (⟨⟨a0,a1⟩,b0,a2,a7,a6,a9,a4⟩:bF),q<=1048576:=λq hq=>hz q (by simp only[fK,aaV];simp only[hq,true_or,or_true]);have b7:∀ q∈db (⟨a0,a1⟩:bj),q<=1048576:=λq hq=>c6 q (by simp only[fg,aaV];simp only[hq,true_or,or_true]);have b3:∀ q∈bR a0,q<=1048576:=λq hq=>b7 q (by simp only[db,aaV];simp only[hq,true_or,or_true]);have c5:aaK a0<=1048576:=b3 _ (by simp[bR]);have b5:∀ q∈dX a1,q<=1048576:=λq hq=>b7 q (by simp only[db,aaV];simp only[hq,true_or,or_true]);have c8:aaK a1<=1048576:=b5 _ (by simp[dX]);have b6:∀ q∈gl a2,q<=1048576:=λq hq=>c6 q (by simp only[fg,aaV];simp only[hq,true_or,or_true]);have d2:aaK a2<=1048576:=b6 _ (by simp[gl]);have c9:∀ q∈jS b8,q<=1048576:=λq hq=>hz q (by simp only[fK,aaV];simp only[hq,true_or,or_true]);have d4:aaK b8<=1048576:=c9 _ (by simp[jS]);have hil:(bm a2).length<=1048576:=hil;have hzs:=Bj b6 hil;refine aY Tryz.func26 ?_;refine gx hA 2 ?_;refine gs (gr (rn hA 2 ?_));obtain⟨d5,c3,aJ⟩:=qL (aaN da (bm a2)) (rL A hA (⟨⟨a0,a1⟩,b0,a2,a7,a6,a9,a4⟩:bF) (by assumption) hil);have d6:=ab hA c3;refine aH aJ (.inr rfl) ?_ (hv:=by subst a3 a5 b2;rfl);obtain⟨c2,a8,cL⟩:=AW [.sl 9 (ar d5)] (aaN eA ((kB (bm a2)).fF)) (by subst c3;simp only[kj];exact xF A hA (bm a2) hzs);have d1:=ab hA a8;refine aH cL (.inl (by simp only[fresh,cj,a8,B4,and_self])) ?_;refine rz hA 1 ?_;refine rt (gt ?_);show _=(PV.agg [.ow 5 c2]);simp only[c3,a8];rfl
def cG :ByteArray:=ByteArray.mk #[105,110,98,111,120]
def lG (u k:ByteArray)(b:aT):Bool:=decide (b.cv=u) && decide (b.Name=k)
def SD :aT:=⟨0,aaM,aaM,0,[]⟩
def gL (xs:List aT)(u k:ByteArray):aT:=(xs.find? (lG u k)).getD SD
def hasB (xs:List aT)(u k:ByteArray):Bool:=(xs.find? (lG u k)).isSome
def kq (xs:List aT)(u:ByteArray):List ByteArray:=(xs.filter λb=>decide (b.cv=u)).map aT.Name
theorem tT {α:Type}{p:α->Bool}{xs:List α}{i:Nat}{x:α}(h:xs[i]? =some x):(xs.drop i).find? p=if p x=true then some x else (xs.drop (i+1)).find? p:=by
 obtain⟨hl,rfl⟩:=List.getElem?_eq_some_iff.1 h;rw[List.drop_eq_getElem_cons hl,List.find?_cons];cases p xs[i]<;>rfl
theorem yH {xs:List aT}{u:ByteArray}{i:Nat}{x:aT}(h:xs[i]? =some x):kq (xs.take (i+1)) u=if x.cv=u then kq (xs.take i) u++[x.Name] else kq (xs.take i) u:=by
 rw[aa6,h,abT,kq,List.filter_append,List.map_append]
 by_cases hk:x.cv=u<;>simp[ace,hk,kq]
theorem Im (xs:List aT)(u:ByteArray)(i:Nat)(h:i<=xs.length):(kq (xs.take i) u).length<=i:=by
 have h1:=abX (λb:aT=>decide (b.cv=u)) (xs.take i);rw[aa1] at h1;unfold kq;rw[aaS];omega
def xr (u:ByteArray):Bool:=dw u && dw cG
def K4 (nv:Int)(u:ByteArray):Bool:=dm nv 1 9999 && (dw u && dw cG)
def cF (nv:Int)(u:ByteArray):aE:=⟨1,nv,0,1,0,u,cG,aaM⟩
def dW (nv:Int)(u:ByteArray):aT:=⟨nv,u,cG,1,[]⟩
def kE (xs:List aT)(nv:Int)(u:ByteArray):Bool:=K4 nv u && (!hasB xs u cG && decide (((kq xs u).length:Int) < 3))
def dN (xs:List aT)(nv:Int)(u:ByteArray):Bool:=xr u && kE xs nv u
def Gy (xs:List aT)(nv:Int)(u:ByteArray):List aT:=if dN xs nv u then xs++[dW nv u] else []
def oq (xs:List aT)(nv:Int)(u:ByteArray):List aE:=if dN xs nv u then [cF nv u] else []
theorem UL {xs:List aT}{nv:Int}{u:ByteArray}(h:hasB xs u cG=true):kE xs nv u=false:=by simp[kE,h]
theorem TT {xs:List aT}{nv:Int}{u:ByteArray}(h:xr u=false):dN xs nv u=false:=by simp[dN,h]
theorem OO {xs:List aT}{nv:Int}{u:ByteArray}(h:kE xs nv u=false):dN xs nv u=false:=by simp[dN,h]
theorem TU {xs:List aT}{nv:Int}{u:ByteArray}(h:xr u=true)(h2:kE xs nv u=true):dN xs nv u=true:=by simp[dN,h,h2]
theorem Qv (z:aT):(eA z).map (fixC 3)=eA z:=by simp[eA,fixC]
theorem K3 (A:ax)(hA:A=aj)(x:List gu)(hb:aaK x<=1048576):al 118 [.sl 3 (aaN jV x)] (.ow 3 (aaN fz x)):=by
 obtain⟨gC,d8,e7⟩:=nr hA jV x;refine ak (az:=[.sl 3 gC]) (by subst d8;rfl) ?_;refine aY Tryz.func118 ?_;refine gx hA 1 ?_;refine gs (gs (gr (rn hA 1 ?_)));refine si rfl rfl rfl rfl (by cbv) (λb1 gg=>?_);refine od ?_;refine gc (λc2=>?_) (λc2=>?_)
 ·
  refine gs (gB (rn hA 1 ?_));refine bY (tw:=[.slot 2 2 3]) (by cbv) ?_;refine rt (gt ?_);refine congrArg (PV.ow 3) ?_;exact Eq.trans (show aaN fz x=aaN jV x from rfl) (d8.symm.trans (gg c2))
 refine gk (gs (gr (rn hA 2 ?_)));obtain⟨r3,dS⟩:=nm (([])++gC:RR);have jv:r3=aaN fz (([])++x):=by rw[dS];exact cM rfl d8
 have AR:=ab hA jv;refine ju dS ?_ (hl:=by
  show(aaK ([])+aaK gC) * _<=_;show(aaK ([]:RR)+aaK gC) * 32<=_;rw[d8];simp only[abn,aaS];omega)
 refine rz hA 1 ?_;refine rt (gt ?_);refine congrArg (PV.ow 3) ?_;exact(jv.trans rfl).symm
theorem vE (A:ax)(hA:A=aj)(x:aT)(hb:aaK x.fQ<=1048576):al 64 [.agg (iG x)] (.agg (eA x)):=by
 obtain⟨c0,c5,d0,c6,b4⟩:=x;obtain⟨b6,b3,d7⟩:=nr hA jV b4;refine ak (az:=[.agg [.ii c0,.str c5,.str d0,.ii c6,.sl 3 b6]]) (by subst b3;rfl) ?_;have hb:aaK b4<=1048576:=hb;refine aY Tryz.func64 ?_;refine gx hA 2 ?_;refine gs (gr (rn hA 2 ?_));obtain⟨e5,e0,aJ⟩:=xq (K3 A hA b4 (by omega));have e6:=ab hA e0;refine aH aJ (.inr rfl) ?_ (hv:=by subst b3;rfl);refine rz hA 2 ?_;refine gx hA 2 ?_;refine rt (gt ?_);show _=(PV.agg [.ii c0,.str c5,.str d0,.ii c6,.ow 3 e5]);simp only[e0,abv];rfl
theorem I8 (A:ax)(hA:A=aj)(x:aT)(hb:aaK x.fQ<=1048576):al 51 [.agg (iG x)] (.agg (eA x)):=by
 obtain⟨c0,c5,d0,c6,b4⟩:=x;obtain⟨b6,b3,d7⟩:=nr hA jV b4;refine ak (az:=[.agg [.ii c0,.str c5,.str d0,.ii c6,.sl 3 b6]]) (by subst b3;rfl) ?_;have hb:aaK b4<=1048576:=hb;refine aY Tryz.func51 ?_;refine gx hA 2 ?_;refine gs (gr (rn hA 3 ?_));obtain⟨r1,ep⟩:=nm (([])++b6:RR);have AT:r1=aaN fz (([])++b4):=by rw[ep];exact cM rfl b3
 have V7:=ab hA AT;refine ju ep ?_ (hl:=by
  show(aaK ([])+aaK b6) * _<=_;simp only[abn,aaS,Nat.zero_add, *];omega)
 refine rz hA 2 ?_;refine gx hA 2 ?_;refine rt (gt ?_);show _=(PV.agg [.ii c0,.str c5,.str d0,.ii c6,.ow 3 r1]);simp only[AT,abv];rfl
def Y1 (p0 p1:ByteArray)(p2:RR)(p3 p4 p5:Int)(p6:ByteArray):St:={sl:=.aa::.str p0::.str p1::dV++.pt 6 0 0::iB++.sl 5 p2::.ii p3::.ii p4::BJ,bl:=[(6,⟨.var,5,[[.ii p5,.str p6,.str p6,.ii p5,.zc]]⟩)]}
theorem uB (A:ax)(hA:A=aj)(s:cY)(u k:ByteArray)(hz:∀ q∈fJ s,q<=1048576):al 30 [.agg (jn s),.str u,.str k] (.aw [.agg (eA (gL s.fF u k)),.bool (hasB s.fF u k)]):=by
 obtain⟨a0⟩:=s;obtain⟨a1,a7,b9⟩:=nr hA iG a0;refine ak (az:=[.agg [.sl 5 a1],.str u,.str k]) (by subst a7;rfl) ?_;have b2:∀ q∈gW a0,q<=1048576:=λq hq=>hz q (by simp only[fJ,aaV];simp only[hq,true_or,or_true]);have d4:aaK a0<=1048576:=b2 _ (by simp[gW]);refine aY Tryz.func30 ?_;refine gx hA 3 ?_;refine gs (gx hA 4 ?_);refine af ?_;refine aF (λσ m=>∃(i:Nat) (n:Int),σ=(Y1 u k a1 (A.ao a1) n 0 aaM)/\(n=(i:Int)/\i<=aaK a0/\acC (lG u k) a0=acC (lG u k) (a0.drop i))/\m=aaK a0 - i) _ [] [1,2,6,11,12,13] [6] _ rfl (by cbv) ⟨0,0,rfl,?_,rfl⟩ (λσ m hI=>?_)
 ·
  exact⟨rfl,aaW _,rfl⟩
 obtain⟨i,n,rfl,⟨hn,hi,hE⟩,rfl⟩:=hI;refine gx hA 1 ?_;refine gs ?_;refine gc (λc1=>?_) (λc1=>?_)
 ·
  have aV:n < (A.ao a1):=aP hA c1;refine gk (gs (af (gs (gr ?_))));obtain⟨b8,d9,x2,cX,d3⟩:=ga a0 n (by omega) (by omega);obtain⟨a4,a3,a2,a6,a5⟩:=x2;obtain⟨b0,a8,b5⟩:=nr hA jV a5;have b7:a1[(aaO n)]? =some [.ii a4,.str a3,.str a2,.ii a6,.sl 3 b0]:=by
   subst a8;exact bC iG a7 cX
  have a9:=cX;rw[hn] at a9;have a9:(a0)[i]? =some (⟨a4,a3,a2,a6,a5⟩:aT):=a9;have e2:aaK a5<=1048576:=b2 _ (aaX _ (abf.2 ⟨_,d3,by simp[B3,rG]⟩));refine ee b8 b7 ?_;refine rz hA 3 ?_;refine gs (gr (rn hA 5 ?_));refine ag 21 rfl (λc3=>?_) (λc3=>?_)
  ·
   have cI:a3=u:=pf hA c3;refine rz hA 5 ?_;refine gc (λc4=>?_) (λc4=>?_)
   ·
    have du:a2=k:=pf hA c4;refine gs (gr (rn hA 1 ?_));obtain⟨d5,c9,kU⟩:=OM (aaN fz a5) a4 a3 a2 a6 (vE A hA (⟨a4,a3,a2,a6,a5⟩:aT) (by assumption));have e1:=ab hA c9;refine aH kU (.inr rfl) ?_ (hv:=by subst a8;rfl);refine rz hA 2 ?_;refine rt (gt ?_);show _=PV.aw [.agg [.ii a4,.str a3,.str a2,.ii a6,.ow 3 d5],.bool true];have E:acC (lG u k) a0=some (⟨a4,a3,a2,a6,a5⟩:aT):=by rw[hE,tT a9,if_pos (by simp[lG,aV,cI,du])]
    have E1:gL a0 u k=(⟨a4,a3,a2,a6,a5⟩:aT):=by rw[gL,E];rfl
    have E2:hasB a0 u k=true:=by rw[hasB,E];rfl
    simp only[E1,E2,c9];rfl
   have du:a2≠k:=oa hA c4;refine gk (gy hA 2 ?_);refine⟨_,_,?_,by cbv,i+1,(A.num .add .i64 n 1),rfl,?_,rfl⟩
   ·
    omega
   refine⟨by rw[au hA (by omega) (by omega)];omega,by omega,?_⟩;rw[hE,tT a9,if_neg (by simp[lG,aV,cI,du,du.symm])]
  have cI:a3≠u:=oa hA c3;refine rz hA 5 ?_;refine gc (λc7=>?_) (λc7=>?_)
  ·
   exact ay c7 (by rfl)
  refine gk (gy hA 2 ?_);refine⟨_,_,?_,by cbv,i+1,(A.num .add .i64 n 1),rfl,?_,rfl⟩
  ·
   omega
  refine⟨by rw[au hA (by omega) (by omega)];omega,by omega,?_⟩;rw[hE,tT a9,if_neg (by simp[lG,aV,cI,cI.symm])]
 have aV:(A.ao a1)<=n:=aQ hA c1;refine aI (gE ?_);refine gs (gB (rn hA 3 ?_));refine bY (tw:=[.cell 6 4 9001 3]) (by cbv) ?_;refine rt (gt ?_);show _=PV.aw [.agg [.ii 0,.str aaM,.str aaM,.ii 0,.ow 3 ([])],.bool false];have E:acC (lG u k) a0=none:=by rw[hE,abk (by omega)];rfl
 have E1:gL a0 u k=SD:=by rw[gL,E];rfl
 have E2:hasB a0 u k=false:=by rw[hasB,E];rfl
 simp only[E1,E2];rfl
def Y2 (p0 p1:ByteArray)(p2 p3:Int)(p4:ByteArray)(p5:RR):St:={sl:=.aa::.str p0::.str p1::.pt 3 0 0::.aa::.aa::.pt 6 0 0::.aa::.ii p2::JC,bl:=[(6,⟨.var,5,[[.ii p3,.str p4,.str p4,.ii p3,.zc]]⟩),(3,⟨.var,1,[[.sl 5 p5]]⟩)]}
theorem AU (A:ax)(hA:A=aj)(s:cY)(u k:ByteArray)(hz:∀ q∈fJ s,q<=1048576):al 25 [.agg (jn s),.str u,.str k] (.aw [.agg (eA (gL s.fF u k)),.bool (hasB s.fF u k)]):=by
 obtain⟨a0⟩:=s;obtain⟨a1,a7,b9⟩:=nr hA iG a0;refine ak (az:=[.agg [.sl 5 a1],.str u,.str k]) (by subst a7;rfl) ?_;have b2:∀ q∈gW a0,q<=1048576:=λq hq=>hz q (by simp only[fJ,aaV];simp only[hq,true_or,or_true]);have d4:aaK a0<=1048576:=b2 _ (by simp[gW]);refine aY Tryz.func25 ?_;refine gx hA 3 ?_;refine gs (gx hA 1 ?_);refine af ?_;refine aF (λσ m=>∃(i:Nat) (n:Int),σ=(Y2 u k n 0 aaM a1)/\(n=(i:Int)/\i<=aaK a0/\acC (lG u k) a0=acC (lG u k) (a0.drop i))/\m=aaK a0 - i) _ [] [1,2,3,6,8] [6,3] _ rfl (by cbv) ⟨0,0,rfl,?_,rfl⟩ (λσ m hI=>?_)
 ·
  exact⟨rfl,aaW _,rfl⟩
 obtain⟨i,n,rfl,⟨hn,hi,hE⟩,rfl⟩:=hI;refine gs (gx hA 5 ?_);refine gc (λc1=>?_) (λc1=>?_)
 ·
  have aV:n < (A.ao a1):=aP hA c1;refine gk (gs (af (gs (gr (rn hA 3 ?_)))));obtain⟨b8,d9,x2,cX,d3⟩:=ga a0 n (by omega) (by omega);obtain⟨a4,a3,a2,a6,a5⟩:=x2;obtain⟨b0,a8,b5⟩:=nr hA jV a5;have b7:a1[(aaO n)]? =some [.ii a4,.str a3,.str a2,.ii a6,.sl 3 b0]:=by
   subst a8;exact bC iG a7 cX
  have a9:=cX;rw[hn] at a9;have a9:(a0)[i]? =some (⟨a4,a3,a2,a6,a5⟩:aT):=a9;have e2:aaK a5<=1048576:=b2 _ (aaX _ (abf.2 ⟨_,d3,by simp[B3,rG]⟩));refine ee b8 b7 ?_;refine rn hA 5 ?_;refine ag 24 rfl (λc3=>?_) (λc3=>?_)
  ·
   have cI:a3=u:=pf hA c3;refine rn hA 3 ?_;refine qf rfl rfl rfl rfl (jO rfl rfl rfl rfl rfl b8 rfl b7) ?_;refine rz hA 5 ?_;refine gc (λc4=>?_) (λc4=>?_)
   ·
    have du:a2=k:=pf hA c4;refine gs (gr (rn hA 3 ?_));refine ee b8 b7 ?_;refine rn hA 1 ?_;obtain⟨d6,d1,kU⟩:=OM (aaN fz a5) a4 a3 a2 a6 (I8 A hA (⟨a4,a3,a2,a6,a5⟩:aT) (by assumption));have e4:=ab hA d1;refine aH kU (.inr rfl) ?_ (hv:=by subst a8;rfl);refine rz hA 2 ?_;refine rt (gt ?_);show _=PV.aw [.agg [.ii a4,.str a3,.str a2,.ii a6,.ow 3 d6],.bool true];have E:acC (lG u k) a0=some (⟨a4,a3,a2,a6,a5⟩:aT):=by rw[hE,tT a9,if_pos (by simp[lG,aV,cI,du])]
    have E1:gL a0 u k=(⟨a4,a3,a2,a6,a5⟩:aT):=by rw[gL,E];rfl
    have E2:hasB a0 u k=true:=by rw[hasB,E];rfl
    simp only[E1,E2,d1];rfl
   have du:a2≠k:=oa hA c4;refine gk (gy hA 3 ?_);refine⟨_,_,?_,by cbv,i+1,(A.num .add .i64 n 1),rfl,?_,rfl⟩
   ·
    omega
   refine⟨by rw[au hA (by omega) (by omega)];omega,by omega,?_⟩;rw[hE,tT a9,if_neg (by simp[lG,aV,cI,du,du.symm])]
  have cI:a3≠u:=oa hA c3;refine rz hA 9 ?_;refine gc (λc7=>?_) (λc7=>?_)
  ·
   exact ay c7 (by rfl)
  refine gk (gy hA 3 ?_);refine⟨_,_,?_,by cbv,i+1,(A.num .add .i64 n 1),rfl,?_,rfl⟩
  ·
   omega
  refine⟨by rw[au hA (by omega) (by omega)];omega,by omega,?_⟩;rw[hE,tT a9,if_neg (by simp[lG,aV,cI,cI.symm])]
 have aV:(A.ao a1)<=n:=aQ hA c1;refine aI (gE ?_);refine gs (gB (rn hA 3 ?_));refine bY (tw:=[.cell 6 4 9001 3]) (by cbv) ?_;refine rt (gt ?_);show _=PV.aw [.agg [.ii 0,.str aaM,.str aaM,.ii 0,.ow 3 ([])],.bool false];have E:acC (lG u k) a0=none:=by rw[hE,abk (by omega)];rfl
 have E1:gL a0 u k=SD:=by rw[gL,E];rfl
 have E2:hasB a0 u k=false:=by rw[hasB,E];rfl
 simp only[E1,E2];rfl
def V8 (p0:ByteArray)(p1:RR)(p2 p3:Int)(p4:RR):St:={sl:=.aa::.str p0::dV++.own 8::iB++.sl 5 p1::.ii p2::.ii p3::BI,bl:=[(8,⟨.arr,1,p4⟩)]}
theorem Gu (A:ax)(hA:A=aj)(s:cY)(u:ByteArray)(hl:aaK s.fF<=1048576):al 219 [.agg (jn s),.str u] (.ow 1 (aaN ah (kq s.fF u))):=by
 obtain⟨a0⟩:=s;obtain⟨a1,a7,b9⟩:=nr hA iG a0;refine ak (az:=[.agg [.sl 5 a1],.str u]) (by subst a7;rfl) ?_;have hl:aaK a0<=1048576:=hl;refine aY Tryz.func219 ?_;refine gx hA 2 ?_;refine gx hA 2 ?_;refine gs (gx hA 4 ?_);refine af ?_;refine aF (λσ m=>∃(i:Nat) (R:RR) (n:Int),σ=(V8 u a1 (A.ao a1) n R)/\(n=(i:Int)/\i<=aaK a0/\R=aaN ah (kq (a0.take i) u))/\m=aaK a0 - i) _ [] [1,5,10,11,12] [8] _ rfl (by cbv) ⟨0,[],0,rfl,?_,rfl⟩ (λσ m hI=>?_)
 ·
  exact⟨rfl,aaW _,rfl⟩
 obtain⟨i,R,n,rfl,⟨hn,hi,hR⟩,rfl⟩:=hI;refine gx hA 1 ?_;refine gs ?_;refine gc (λc1=>?_) (λc1=>?_)
 ·
  have aV:n < (A.ao a1):=aP hA c1;refine gk (gs (af (gs (gr ?_))));obtain⟨b8,d9,x2,cX,d3⟩:=ga a0 n (by omega) (by omega);obtain⟨a4,a3,a2,a6,a5⟩:=x2;obtain⟨b0,a8,b5⟩:=nr hA jV a5;have b7:a1[(aaO n)]? =some [.ii a4,.str a3,.str a2,.ii a6,.sl 3 b0]:=by
   subst a8;exact bC iG a7 cX
  have a9:=cX;rw[hn] at a9;have a9:(a0)[i]? =some (⟨a4,a3,a2,a6,a5⟩:aT):=a9;refine ee b8 b7 ?_;refine rz hA 3 ?_;refine gx hA 4 ?_;refine gc (λc3=>?_) (λc3=>?_)
  ·
   have cI:a3=u:=pf hA c3;refine gr (rn hA 4 ?_);obtain⟨r4,gh⟩:=nm (R++[[.str a2]]:RR);have vF:r4=aaN ah ((kq (a0.take i) u)++([(a2:ByteArray)])):=by rw[gh];exact cM hR (by rfl)
   have TR:=ab hA vF;refine ju gh ?_ (hl:=by
    show(aaK R+aaK ([[.str a2]])) * _<=_;show(aaK R+1) * 16<=_;rw[hR,aaS];have:=Im a0 u i hi;omega)
   refine rz hA 1 ?_;refine gy hA 2 ?_;refine⟨_,_,?_,by cbv,i+1,r4,(A.num .add .i64 n 1),rfl,?_,rfl⟩
   ·
    omega
   refine⟨by rw[au hA (by omega) (by omega)];omega,by omega,?_⟩;rw[yH a9,if_pos cI];exact vF
  have cI:a3≠u:=oa hA c3;refine gk (gy hA 2 ?_);refine⟨_,_,?_,by cbv,i+1,R,(A.num .add .i64 n 1),rfl,?_,rfl⟩
  ·
   omega
  refine⟨by rw[au hA (by omega) (by omega)];omega,by omega,?_⟩;rw[yH a9,if_neg cI];exact hR
 have aV:(A.ao a1)<=n:=aQ hA c1;refine aI (gE ?_);refine gx hA 2 ?_;refine rt (gt ?_);refine congrArg (PV.ow 1) ?_;rw[hR,aaU (by omega)]
def V9 (p0:ByteArray)(p1:Int)(p2 p3:RR):St:={sl:=.aa::.str p0::.pt 2 0 0::.aa::.aa::.own 7::.ii p1::vh,bl:=[(7,⟨.arr,1,p2⟩),(2,⟨.var,1,[[.sl 5 p3]]⟩)]}
theorem Gv (A:ax)(hA:A=aj)(s:cY)(u:ByteArray)(hl:aaK s.fF<=1048576):al 154 [.agg (jn s),.str u] (.ow 1 (aaN ah (kq s.fF u))):=by
 obtain⟨a0⟩:=s;obtain⟨a1,a7,b9⟩:=nr hA iG a0;refine ak (az:=[.agg [.sl 5 a1],.str u]) (by subst a7;rfl) ?_;have hl:aaK a0<=1048576:=hl;refine aY Tryz.func154 ?_;refine gx hA 2 ?_;refine gx hA 2 ?_;refine gs (gx hA 1 ?_);refine af ?_;refine aF (λσ m=>∃(i:Nat) (R:RR) (n:Int),σ=(V9 u n R a1)/\(n=(i:Int)/\i<=aaK a0/\R=aaN ah (kq (a0.take i) u))/\m=aaK a0 - i) _ [] [1,2,5,6] [7,2] _ rfl (by cbv) ⟨0,[],0,rfl,?_,rfl⟩ (λσ m hI=>?_)
 ·
  exact⟨rfl,aaW _,rfl⟩
 obtain⟨i,R,n,rfl,⟨hn,hi,hR⟩,rfl⟩:=hI;refine gs (gx hA 5 ?_);refine gc (λc1=>?_) (λc1=>?_)
 ·
  have aV:n < (A.ao a1):=aP hA c1;refine gk (gs (af (gs (gr (rn hA 3 ?_)))));obtain⟨b8,d9,x2,cX,d3⟩:=ga a0 n (by omega) (by omega);obtain⟨a4,a3,a2,a6,a5⟩:=x2;obtain⟨b0,a8,b5⟩:=nr hA jV a5;have b7:a1[(aaO n)]? =some [.ii a4,.str a3,.str a2,.ii a6,.sl 3 b0]:=by
   subst a8;exact bC iG a7 cX
  have a9:=cX;rw[hn] at a9;have a9:(a0)[i]? =some (⟨a4,a3,a2,a6,a5⟩:aT):=a9;refine ee b8 b7 ?_;refine rz hA 4 ?_;refine gc (λc3=>?_) (λc3=>?_)
  ·
   have cI:a3=u:=pf hA c3;refine gr (rn hA 4 ?_);refine ee b8 b7 ?_;refine rn hA 3 ?_;obtain⟨r4,gh⟩:=nm (R++[[.str a2]]:RR);have vF:r4=aaN ah ((kq (a0.take i) u)++([(a2:ByteArray)])):=by rw[gh];exact cM hR (by rfl)
   have TR:=ab hA vF;refine ju gh ?_ (hl:=by
    show(aaK R+aaK ([[.str a2]])) * _<=_;show(aaK R+1) * 16<=_;rw[hR,aaS];have:=Im a0 u i hi;omega)
   refine rz hA 1 ?_;refine gy hA 3 ?_;refine⟨_,_,?_,by cbv,i+1,r4,(A.num .add .i64 n 1),rfl,?_,rfl⟩
   ·
    omega
   refine⟨by rw[au hA (by omega) (by omega)];omega,by omega,?_⟩;rw[yH a9,if_pos cI];exact vF
  have cI:a3≠u:=oa hA c3;refine gk (gy hA 3 ?_);refine⟨_,_,?_,by cbv,i+1,R,(A.num .add .i64 n 1),rfl,?_,rfl⟩
  ·
   omega
  refine⟨by rw[au hA (by omega) (by omega)];omega,by omega,?_⟩;rw[yH a9,if_neg cI];exact hR
 have aV:(A.ao a1)<=n:=aQ hA c1;refine aI (gE ?_);refine gx hA 2 ?_;refine rt (gt ?_);refine congrArg (PV.ow 1) ?_;rw[hR,aaU (by omega)]
def Wa (p0:RR)(p1 p2:Int)(p3:RR):St:={sl:=.aa::.aa::.pt 2 0 0::.pt 3 0 0::iB++.sl 5 p0::.ii p1::.ii p2::Jz,bl:=[(2,⟨.var,1,[[.zc]]⟩),(3,⟨.var,1,[[.own 7003]]⟩),(7003,⟨.arr,5,p3⟩)]}
theorem sV (A:ax)(hA:A=aj)(s:cY)(hz:∀ q∈fJ s,q<=1048576):al 207 [.agg (jn s)] (.agg (nz s)):=by
 obtain⟨a0⟩:=s;obtain⟨a1,a7,b9⟩:=nr hA iG a0;refine ak (az:=[.agg [.sl 5 a1]]) (by subst a7;rfl) ?_;have b2:∀ q∈gW a0,q<=1048576:=λq hq=>hz q (by simp only[fJ,aaV];simp only[hq,true_or,or_true]);have d4:aaK a0<=1048576:=b2 _ (by simp[gW]);refine aY Tryz.func207 ?_;refine gx hA 2 ?_;refine gx hA 3 ?_;refine gs (gx hA 4 ?_);refine af ?_;refine aF (λσ m=>∃(i:Nat) (R:RR) (n:Int),σ=(Wa a1 (A.ao a1) n R)/\(n=(i:Int)/\i<=aaK a0/\R=aaN eA (a0.take i))/\m=aaK a0 - i) _ [.cell 3 0 7003 5,.up 7003,.up 3,.up 2,.up 1] [2,3,8,9,10] [2,3,7003] _ rfl (by cbv) ⟨0,[],0,rfl,?_,rfl⟩ (λσ m hI=>?_)
 ·
  exact⟨rfl,aaW _,rfl⟩
 obtain⟨i,R,n,rfl,⟨hn,hi,hR⟩,rfl⟩:=hI;refine gx hA 1 ?_;refine gs ?_;refine gc (λc1=>?_) (λc1=>?_)
 ·
  have aV:n < (A.ao a1):=aP hA c1;refine gk (gs (af (gs (gr ?_))));obtain⟨b8,d9,x2,cX,d3⟩:=ga a0 n (by omega) (by omega);obtain⟨a4,a3,a2,a6,a5⟩:=x2;obtain⟨b0,a8,b5⟩:=nr hA jV a5;have b7:a1[(aaO n)]? =some [.ii a4,.str a3,.str a2,.ii a6,.sl 3 b0]:=by
   subst a8;exact bC iG a7 cX
  have a9:=cX;rw[hn] at a9;have a9:(a0)[i]? =some (⟨a4,a3,a2,a6,a5⟩:aT):=a9;have e2:aaK a5<=1048576:=b2 _ (aaX _ (abf.2 ⟨_,d3,by simp[B3,rG]⟩));refine ee b8 b7 ?_;refine rz hA 3 ?_;refine cR [0,1,2,3,4,5,6,7] (by cbv) ?_;refine cH hA 3 ?_;obtain⟨d2,c8,cL⟩:=OM (aaN fz a5) a4 a3 a2 a6 (vE A hA (⟨a4,a3,a2,a6,a5⟩:aT) (by assumption));have e3:=ab hA c8;refine nc cL (.inr rfl) ?_ (hv:=by subst a8;rfl);refine cH hA 1 ?_;obtain⟨r5,kr⟩:=nm (R++[[.ii a4,.str a3,.str a2,.ii a6,.ow 3 d2]]:RR);have vG:r5=aaN eA ((a0.take i)++([(⟨a4,a3,a2,a6,a5⟩:aT)])):=by rw[kr];exact cM hR (by simp only[c8];rfl)
  have TS:=ab hA vG;refine iF rfl rfl rfl rfl rfl rfl rfl (ij rfl rfl rfl rfl rfl rfl rfl rfl kr (by cbv) (by cbv) (by cbv) rfl (by
   show(aaK R+aaK ([[.ii a4,.str a3,.str a2,.ii a6,.ow 3 d2]])) * _<=_;show(aaK R+1) * 72<=_;rw[hR,aaS,aa1];omega) (by decide) (by decide)) ?_
  refine cH hA 2 ?_;refine cS (by cbv) ?_;refine gy hA 2 ?_;refine⟨_,_,?_,by cbv,i+1,r5,(A.num .add .i64 n 1),rfl,?_,rfl⟩
  ·
   omega
  refine⟨by rw[au hA (by omega) (by omega)];omega,by omega,?_⟩;rw[aa6,a9];exact vG
 have aV:(A.ao a1)<=n:=aQ hA c1;refine aI (gE ?_);refine gx hA 2 ?_;refine rt (gt ?_);show _=(PV.agg [.ow 5 R]);simp only[hR,aaU (show aaK a0<=i by omega)];rfl
end Go.Av

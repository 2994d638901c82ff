/- Walks: the reference on what items tell. -/
import Derived.Test.YtjbokkoiicoahaaGreatDoorJ8
namespace Go.Av
open Go Go.Proofs
set_option maxRecDepth 100000
set_option maxHeartbeats 4000000
set_option linter.unusedVariables false
set_option linter.unusedSimpArgs false
theorem insF_at {q:GRec→Bool}{f:GRec→Int}{xs:List GItem}{i:Nat}{x:GItem}(h:xs[i]? =some x):insF q f (xs.take (i+1))=if q x.Rec=true then insS (insF q f (xs.take i)) (f x.Rec) else insF q f (xs.take i):=by
 rw[List.take_add_one,h];simp[insF,insStep,List.foldl_append]
theorem insS_len (zs:List Int)(x:Int):(insS zs x).length≤zs.length+1:=by
 have main:∀ zs:List Int,(zs.filter fun y=>decide (y < x)).length+(zs.filter fun y=>decide (x < y)).length≤zs.length:=by
  intro zs
  induction zs with
  | nil=>simp
  | cons z zs ih=>
   simp only[List.filter_cons,List.length_cons]
   by_cases h1:z < x
   ·rw [if_pos (decide_eq_true h1),if_neg (by simp;omega)]
    simp only[List.length_cons];omega
   by_cases h2:x < z
   ·rw [if_neg (by simpa using h1),if_pos (decide_eq_true h2)]
    simp only[List.length_cons];omega
   rw[if_neg (by simpa using h1),if_neg (by simpa using h2)]
   omega
 have:=main zs
 unfold insS
 rw[List.length_append,List.length_append]
 simp only[List.length_cons,List.length_nil];omega
theorem insF_len (q:GRec→Bool)(f:GRec→Int)(xs:List GItem):(insF q f xs).length≤xs.length:=by
 have main:∀(xs:List GItem) (s:List Int),(xs.foldl (insStep q f) s).length≤s.length+xs.length:=by
  intro xs
  induction xs with
  | nil=>intro s;simp
  | cons x xs ih=>
   intro s
   have h1:=ih (insStep q f s x)
   have h2:(insStep q f s x).length≤s.length+1:=by
    unfold insStep;split
    ·exact insS_len s _
    omega
   rw[List.foldl_cons,List.length_cons];omega
 have:=main xs []
 simpa [insF] using this
theorem insF_lt (q:GRec→Bool)(f:GRec→Int)(xs:List GItem)(i:Nat):(insF q f (xs.take i)).length≤xs.length:=by
 have h1:=insF_len q f (xs.take i)
 rw[List.length_take] at h1;omega
theorem map_tk {β:Type}{f:Int→β}{us:List Int}{i:Nat}{u:Int}(h:us[i]? =some u):(us.take (i+1)).map f=(us.take i).map f++[f u]:=by
 rw[List.take_add_one,h];simp
def S59_1 (p0:RR)(p1:Int)(p2:Int)(p3:RR):St:={sl:=[.sl 9 p0,.ii p1,.bad,.bad,.bad,.own 17,.ii p2,.bad,.bad,.bad,.bad,.bad,.bad,.bad,.bad,.bad,.bad,.bad,.bad,.bad,.bad,.bad,.bad,.bad,.bad,.bad,.bad,.bad,.bad,.bad,.bad,.bad,.bad,.bad,.bad,.bad,.bad,.bad,.bad,.bad,.bad,.bad,.bad,.bad,.bad,.bad,.bad,.bad,.bad,.bad,.bad,.bad,.bad,.bad,.bad,.bad,.bad,.bad,.bad,.bad,.bad,.bad,.bad,.bad,.bad,.bad,.bad,.bad,.bad,.bad,.bad,.bad,.bad,.bad,.bad,.bad,.bad,.bad,.bad,.bad,.bad,.bad,.bad,.bad,.bad,.bad,.bad,.bad,.bad,.bad,.bad,.bad,.bad,.bad,.bad,.bad,.bad,.bad,.bad,.bad,.bad,.bad],bl:=[(17,⟨.arr,1,p3⟩)]}
def S59_2 (p0:RR)(p1:Int)(p2:Int)(p3:RR)(p4:RR):St:={sl:=[.sl 9 p0,.ii p1,.bad,.bad,.bad,.own 17,.bad,.bad,.bad,.bad,.own 54,.ii p2,.bad,.bad,.bad,.bad,.bad,.bad,.bad,.bad,.bad,.bad,.bad,.bad,.bad,.bad,.bad,.bad,.bad,.bad,.bad,.bad,.bad,.bad,.bad,.bad,.bad,.bad,.bad,.bad,.bad,.bad,.bad,.bad,.bad,.bad,.bad,.bad,.bad,.bad,.bad,.bad,.bad,.bad,.bad,.bad,.bad,.bad,.bad,.bad,.bad,.bad,.bad,.bad,.bad,.bad,.bad,.bad,.bad,.bad,.bad,.bad,.bad,.bad,.bad,.bad,.bad,.bad,.bad,.bad,.bad,.bad,.bad,.bad,.bad,.bad,.bad,.bad,.bad,.bad,.bad,.bad,.bad,.bad,.bad,.bad,.bad,.bad,.bad,.bad,.bad,.bad],bl:=[(17,⟨.arr,1,p3⟩),(54,⟨.arr,3,p4⟩)]}
theorem r_spec_l07Mails (A:Alg)(hA:A=std)(xs:List GItem)(v:Int)(hx:List.length xs≤1048576):Real Tryz.prog 59 [.sl 9 (List.map eItem xs),.ii v] (.ow 3 (List.map eoMail (mailsR v xs))):=by
 obtain⟨b3,i6⟩:=nm (xs.map eItem)
 have z3:=rlen_map hA i6
 refine real_args (args':=[.sl 9 b3,.ii v]) (by subst i6;rfl) ?_
 refine real tyOk Tryz.func59 (by kernel_rfl) (afun_of rfl ?_)
 refine gx hA 1 ?_
 refine gx hA 2 ?_
 refine gs (gx hA 1 ?_)
 refine go_block ?_
 refine go_loopE (fun σ m=>∃(i:Nat) (n:Int) (R:RR),σ=(S59_1 b3 v n R)∧(n=(i:Int)∧i≤List.length xs∧R=List.map eInt (insF (uidQ v xs) GRec.Uid (xs.take i)))∧m=List.length xs - i) _ [.up 17] [0,1,5,6] [17] (S59_1 b3 v 0 ([])) rfl (by cbv) ⟨0,0,[],rfl,?_,rfl⟩ (fun σ m hI=> ?_)
 ·
  exact⟨rfl,Nat.zero_le _,rfl⟩
 obtain⟨i,n,R,rfl,⟨hn,hi,hR⟩,rfl⟩:=hI
 have hul:=insF_lt (uidQ v xs) GRec.Uid xs i
 have lR:=rlen_map hA hR
 refine gs (gx hA 4 ?_)
 refine gc (fun c1=> ?_) (fun c1=> ?_)
 ·
  have ec1:n < (A.rlen b3):=lss_t hA c1
  refine gk (gs ?_)
  refine go_block ?_
  refine gs (gr (rn hA 2 ?_))
  have z6:(0:Int)≤n:=by
   omega
  have B2:(Int.toNat n) < List.length xs:=by
   omega
  obtain⟨x2,hx2⟩:∃ x,(xs)[(Int.toNat n)]? =some x:=⟨_,List.getElem?_eq_getElem B2⟩
  have D0:=List.mem_of_getElem? hx2
  obtain⟨o9,⟨g9,f7,d1,i9,i2,j0,i7,i8⟩⟩:=x2
  have z9:b3[(Int.toNat n)]? =some [.ii o9,.ii g9,.ii f7,.ii d1,.ii i9,.ii i2,.str j0,.str i7,.str i8]:=by
   exact map_at eItem i6 hx2
  have r1:=hx2
  rw[hn] at r1
  have r1:(xs)[i]? =some (⟨o9,⟨g9,f7,d1,i9,i2,j0,i7,i8⟩⟩:GItem):=r1
  refine ops_step rfl rfl (idx_sl rfl rfl rfl rfl rfl z6 rfl z9) ?_
  refine rz hA 4 ?_
  refine gs (gr (rn hA 4 ?_))
  obtain⟨o3,l5,j4,l8,k8,j7,l4,k9,l7,o8,y0,w8,v6,x0,w2,v4,w6,w0,w1,p8,hc4⟩:∃(o3:Int) (l5:Int) (j4:Int) (l8:Int) (k8:Int) (j7:Int) (l4:ByteArray) (k9:ByteArray) (l7:ByteArray) (o8:Bool),o3=((Option.getD (lat (mailIs 5 v d1) bySeqB xs) zItem).Seq)∧l5=(((Option.getD (lat (mailIs 5 v d1) bySeqB xs) zItem).Rec).Kind)∧j4=(((Option.getD (lat (mailIs 5 v d1) bySeqB xs) zItem).Rec).Valid)∧l8=(((Option.getD (lat (mailIs 5 v d1) bySeqB xs) zItem).Rec).Uid)∧k8=(((Option.getD (lat (mailIs 5 v d1) bySeqB xs) zItem).Rec).Next)∧j7=(((Option.getD (lat (mailIs 5 v d1) bySeqB xs) zItem).Rec).Flags)∧l4=(((Option.getD (lat (mailIs 5 v d1) bySeqB xs) zItem).Rec).User)∧k9=(((Option.getD (lat (mailIs 5 v d1) bySeqB xs) zItem).Rec).Name)∧l7=(((Option.getD (lat (mailIs 5 v d1) bySeqB xs) zItem).Rec).Text)∧o8=(Option.isSome (lat (mailIs 5 v d1) bySeqB xs))∧Real Tryz.prog 55 [.sl 9 b3,.ii 5,.ii v,.ii d1] (.tup [.agg [.ii o3,.ii l5,.ii j4,.ii l8,.ii k8,.ii j7,.str l4,.str k9,.str l7],.bool o8]):=⟨_,_,_,_,_,_,_,_,_,_,rfl,rfl,rfl,rfl,rfl,rfl,rfl,rfl,rfl,rfl,by subst i6;exact r_spec_l07Best A hA xs 5 v d1 (by omega)⟩
  refine cvw hc4 (.inr rfl) ?_
  refine rz hA 6 ?_
  refine gs (gr (rn hA 4 ?_))
  refine ops_split 40 rfl (fun c5=> ?_) (fun c5=> ?_)
  ·
   have ec5:g9=3:=eql_t hA c5
   refine rn hA 6 ?_
   refine ops_split 46 rfl (fun c6=> ?_) (fun c6=> ?_)
   ·
    have ec6:f7=v:=eql_t hA c6
    refine rz hA 3 ?_
    refine gc (fun c7=> ?_) (fun c7=> ?_)
    ·
     have c8:o8=false:=bnot_t hA c7
     refine gB (rn hA 3 ?_)
     obtain⟨s2,t7,C0⟩:∃(s2:RR),s2=List.map eInt (insS (insF (uidQ v xs) GRec.Uid (xs.take i)) d1)∧Real Tryz.prog 56 [.sl 1 (eraseR R),.ii d1] (.ow 1 s2):=⟨_,rfl,by subst hR;simp only[erR_Int];exact r_spec_l07Sorted A hA (insF (uidQ v xs) GRec.Uid (xs.take i)) d1 (by omega)⟩
     have C3:=rlen_map hA t7
     refine cvw C0 (.inl (by simp only[fresh,freshL,t7,frR_Int,and_self])) ?_
     refine rn hA 1 ?_
     refine ops_doneB (tw:=[.drop 17,.ren 53 17,.up 17,.up 8,.up 7]) (by cbv) ?_
     refine gy hA 3 ?_
     refine⟨(S59_1 b3 v (A.num .add .i64 n 1) s2),List.length xs - (i+1),?_,by cbv,i+1,(A.num .add .i64 n 1),s2,rfl,?_,rfl⟩
     ·
      omega
     have hQ:(uidQ v xs) (GItem.Rec (⟨o9,⟨g9,f7,d1,i9,i2,j0,i7,i8⟩⟩:GItem))=true:=by
      unfold uidQ
      simp[kindIs,← p8,ec1,ec5,ec6,c8]
     refine⟨by rw[add_i64 hA (by omega) (by omega)];omega,by omega,?_⟩
     rw[insF_at r1,if_pos (by rw[hQ])]
     exact t7
    have c11:o8=true:=bnot_f hA c7
    refine gk (gy hA 3 ?_)
    refine⟨(S59_1 b3 v (A.num .add .i64 n 1) R),List.length xs - (i+1),?_,by cbv,i+1,(A.num .add .i64 n 1),R,rfl,?_,rfl⟩
    ·
     omega
    have hQ:(uidQ v xs) (GItem.Rec (⟨o9,⟨g9,f7,d1,i9,i2,j0,i7,i8⟩⟩:GItem))=false:=by
     unfold uidQ
     simp[kindIs,← p8,ec1,ec5,ec6,c11]
    refine⟨by rw[add_i64 hA (by omega) (by omega)];omega,by omega,?_⟩
    rw[insF_at r1,if_neg (by rw[hQ];decide)]
    exact hR
   have ec6:f7≠v:=eql_f hA c6
   refine rz hA 3 ?_
   refine gc (fun c12=> ?_) (fun c12=> ?_)
   ·
    exact no_t c12 (show false=false from by rfl)
   refine gk (gy hA 3 ?_)
   refine⟨(S59_1 b3 v (A.num .add .i64 n 1) R),List.length xs - (i+1),?_,by cbv,i+1,(A.num .add .i64 n 1),R,rfl,?_,rfl⟩
   ·
    omega
   have hQ:(uidQ v xs) (GItem.Rec (⟨o9,⟨g9,f7,d1,i9,i2,j0,i7,i8⟩⟩:GItem))=false:=by
    unfold uidQ
    simp[kindIs,← p8,ec1,ec5,ec6,ec6.symm]
   refine⟨by rw[add_i64 hA (by omega) (by omega)];omega,by omega,?_⟩
   rw[insF_at r1,if_neg (by rw[hQ];decide)]
   exact hR
  have ec5:g9≠3:=eql_f hA c5
  refine rz hA 9 ?_
  refine gc (fun c13=> ?_) (fun c13=> ?_)
  ·
   exact no_t c13 (show false=false from by rfl)
  refine gk (gy hA 3 ?_)
  refine⟨(S59_1 b3 v (A.num .add .i64 n 1) R),List.length xs - (i+1),?_,by cbv,i+1,(A.num .add .i64 n 1),R,rfl,?_,rfl⟩
  ·
   omega
  have hQ:(uidQ v xs) (GItem.Rec (⟨o9,⟨g9,f7,d1,i9,i2,j0,i7,i8⟩⟩:GItem))=false:=by
   unfold uidQ
   simp[kindIs,← p8,ec1,ec5,ec5.symm]
  refine⟨by rw[add_i64 hA (by omega) (by omega)];omega,by omega,?_⟩
  rw[insF_at r1,if_neg (by rw[hQ];decide)]
  exact hR
 have ec1:(A.rlen b3)≤n:=lss_f hA c1
 refine go_exit ⟨fun _=> ?_,fun h=>absurd rfl h⟩
 refine gx hA 2 ?_
 refine gs (gx hA 1 ?_)
 refine go_block ?_
 refine go_loopE (fun σ m=>∃(k:Nat) (n2:Int) (R2:RR),σ=(S59_2 b3 v n2 R R2)∧(n2=(k:Int)∧k≤List.length (insF (uidQ v xs) GRec.Uid (xs.take i))∧R2=List.map eoMail (List.map (mailR v xs) (List.take k (insF (uidQ v xs) GRec.Uid (xs.take i)))))∧m=List.length (insF (uidQ v xs) GRec.Uid (xs.take i)) - k) _ [.up 54,.up 17] [0,1,5,10,11] [17,54] (S59_2 b3 v 0 R ([])) rfl (by cbv) ⟨0,0,[],rfl,?_,rfl⟩ (fun σ m hI=> ?_)
 ·
  exact⟨rfl,Nat.zero_le _,rfl⟩
 obtain⟨k,n2,R2,rfl,⟨hk,hkl,hR2⟩,rfl⟩:=hI
 refine gs (gx hA 4 ?_)
 refine gc (fun c14=> ?_) (fun c14=> ?_)
 ·
  have B9:n2 < (A.rlen R):=lss_t hA c14
  refine gk (gs ?_)
  refine go_block ?_
  refine gs (gr (rn hA 4 ?_))
  have t3:(0:Int)≤n2:=by
   omega
  have z1:(Int.toNat n2) < List.length (insF (uidQ v xs) GRec.Uid (xs.take i)):=by
   omega
  obtain⟨x15,w9⟩:∃ x,(insF (uidQ v xs) GRec.Uid (xs.take i))[(Int.toNat n2)]? =some x:=⟨_,List.getElem?_eq_getElem z1⟩
  have C4:=List.mem_of_getElem? w9
  have t5:R[(Int.toNat n2)]? =some [.ii x15]:=by
   exact map_at eInt hR w9
  have s3:=w9
  rw[hk] at s3
  have s3:(insF (uidQ v xs) GRec.Uid (xs.take i))[k]? =some x15:=s3
  have y7:n2 < (List.length R:Int):=by
   rw[hR,List.length_map];omega
  refine ops_step rfl rfl (idx_own rfl rfl rfl rfl rfl rfl t3 y7 rfl) ?_
  refine ops_step rfl rfl (ld_arr rfl rfl rfl rfl t5 rfl) ?_
  obtain⟨c2,a9,a5,b0,a8,a1,a6,a7,a0,e6,q0,m7,m2,n8,n3,m3,m6,m9,m8,t1,z4⟩:∃(c2:Int) (a9:Int) (a5:Int) (b0:Int) (a8:Int) (a1:Int) (a6:ByteArray) (a7:ByteArray) (a0:ByteArray) (e6:Bool),c2=((Option.getD (lat (mailIs 3 v x15) bySeqB xs) zItem).Seq)∧a9=(((Option.getD (lat (mailIs 3 v x15) bySeqB xs) zItem).Rec).Kind)∧a5=(((Option.getD (lat (mailIs 3 v x15) bySeqB xs) zItem).Rec).Valid)∧b0=(((Option.getD (lat (mailIs 3 v x15) bySeqB xs) zItem).Rec).Uid)∧a8=(((Option.getD (lat (mailIs 3 v x15) bySeqB xs) zItem).Rec).Next)∧a1=(((Option.getD (lat (mailIs 3 v x15) bySeqB xs) zItem).Rec).Flags)∧a6=(((Option.getD (lat (mailIs 3 v x15) bySeqB xs) zItem).Rec).User)∧a7=(((Option.getD (lat (mailIs 3 v x15) bySeqB xs) zItem).Rec).Name)∧a0=(((Option.getD (lat (mailIs 3 v x15) bySeqB xs) zItem).Rec).Text)∧e6=(Option.isSome (lat (mailIs 3 v x15) bySeqB xs))∧Real Tryz.prog 55 [.sl 9 b3,.ii 3,.ii v,.ii x15] (.tup [.agg [.ii c2,.ii a9,.ii a5,.ii b0,.ii a8,.ii a1,.str a6,.str a7,.str a0],.bool e6]):=⟨_,_,_,_,_,_,_,_,_,_,rfl,rfl,rfl,rfl,rfl,rfl,rfl,rfl,rfl,rfl,by subst i6;exact r_spec_l07Best A hA xs 3 v x15 (by omega)⟩
  refine cvw z4 (.inr rfl) ?_
  refine rz hA 6 ?_
  refine gs ?_
  have s1:n2 < (List.length R:Int):=by
   rw[hR,List.length_map];omega
  refine go_drawE [0,1,2,3,4,5,6,7,8,9,10,11,12] (by cbv) rfl rfl ({sl:=[.sl 9 b3,.ii v,.bad,.bad,.bad,.own 17,.bad,.bad,.bad,.bad,.own 54,.ii n2,.pt 12 0 0,.bool e6,.pt 14 0 0,.bad,.bad,.bad,.bad,.bad,.bad,.bad,.bad,.bad,.bad,.bad,.bad,.bad,.bad,.bad,.bad,.bad,.bad,.bad,.bad,.bad,.bad,.bad,.bad,.bad,.bad,.bad,.bad,.bad,.bad,.bad,.bad,.bad,.bad,.bad,.bad,.bad,.bad,.bad,.bad,.ii n2,.own 17,.ii (A.rlen R),.bool (A.cmp .lss n2 (A.rlen R)),.bad,.bad,.tup [.agg [.ii c2,.ii a9,.ii a5,.ii b0,.ii a8,.ii a1,.str a6,.str a7,.str a0],.bool e6],.sl 9 b3,.ii v,.own 17,.ii n2,.pt 17 (Int.toNat n2) 0,.ii x15,.tup [.agg [.ii c2,.ii a9,.ii a5,.ii b0,.ii a8,.ii a1,.str a6,.str a7,.str a0],.bool e6],.agg [.ii c2,.ii a9,.ii a5,.ii b0,.ii a8,.ii a1,.str a6,.str a7,.str a0],.bool e6,.own 17,.ii n2,.pt 17 (Int.toNat n2) 0,.ii x15,.pt 12 0 1,.pt 12 0 5,.ii a1,.pt 12 0 1,.pt 12 0 8,.str a0,.agg [.ii x15,.ii a1,.str a0],.bad,.bad,.bad,.bad,.bad,.bad,.bad,.bad,.bad,.bad,.bad,.bad,.bad,.bad,.bad,.bad,.bad,.bad,.bad,.bad],bl:=[(12,⟨.var,9,[[.ii c2,.ii a9,.ii a5,.ii b0,.ii a8,.ii a1,.str a6,.str a7,.str a0]]⟩),(14,⟨.var,3,[[.ii x15,.ii a1,.str a0]]⟩),(17,⟨.arr,1,R⟩),(54,⟨.arr,3,R2⟩)]}:St) (fun dR dK dhR dhF=> ?_) ?_
  ·
   have x6:∀(dn:Nat),cntF [true,true,true,true,true,true,true,true,true,true,true,true,true]=dn→dwp T ⟨Real Tryz.prog,RealM Tryz.prog,RealC Tryz.prog⟩ dR dK dn [true,true,true,true,true,true,true,true,true,true,true,true,true] ({sl:=[.sl 9 b3,.ii v,.bad,.bad,.bad,.own 17,.bad,.bad,.bad,.bad,.own 54,.ii n2,.pt 12 0 0,.bool e6,.pt 14 0 0,.bad,.bad,.bad,.bad,.bad,.bad,.bad,.bad,.bad,.bad,.bad,.bad,.bad,.bad,.bad,.bad,.bad,.bad,.bad,.bad,.bad,.bad,.bad,.bad,.bad,.bad,.bad,.bad,.bad,.bad,.bad,.bad,.bad,.bad,.bad,.bad,.bad,.bad,.bad,.bad,.ii n2,.own 17,.ii (A.rlen R),.bool (A.cmp .lss n2 (A.rlen R)),.bad,.bad,.tup [.agg [.ii c2,.ii a9,.ii a5,.ii b0,.ii a8,.ii a1,.str a6,.str a7,.str a0],.bool e6],.sl 9 b3,.ii v,.own 17,.ii n2,.pt 17 (Int.toNat n2) 0,.ii x15,.tup [.agg [.ii c2,.ii a9,.ii a5,.ii b0,.ii a8,.ii a1,.str a6,.str a7,.str a0],.bool e6],.agg [.ii c2,.ii a9,.ii a5,.ii b0,.ii a8,.ii a1,.str a6,.str a7,.str a0],.bool e6,.own 17,.ii n2,.pt 17 (Int.toNat n2) 0,.ii x15,.pt 12 0 1,.pt 12 0 5,.ii a1,.pt 12 0 1,.pt 12 0 8,.str a0,.agg [.ii x15,.ii a1,.str a0],.bad,.bad,.bad,.bad,.bad,.bad,.bad,.bad,.bad,.bad,.bad,.bad,.bad,.bad,.bad,.bad,.bad,.bad,.bad,.bad],bl:=[(12,⟨.var,9,[[.ii c2,.ii a9,.ii a5,.ii b0,.ii a8,.ii a1,.str a6,.str a7,.str a0]]⟩),(14,⟨.var,3,[[.ii x15,.ii a1,.str a0]]⟩),(17,⟨.arr,1,R⟩),(54,⟨.arr,3,R2⟩)]}:St):=by
    intro dn
    induction dn with
    | zero=>
     intro dhn
     exact dwp_last dhF
    | succ dn ih=>
     intro dhn
     subst dhR
     refine dwp_next (is:=[0,1,2,3,4,5,6,7,8,9,10,11,12]) rfl ?_
     refine an ?_
     refine an ?_
     refine an ?_
     refine an ?_
     refine an ?_
     refine an ?_
     refine an ?_
     refine an ?_
     refine an ?_
     refine an ?_
     refine an ?_
     refine an ?_
     refine an ?_
     exact trivial
   have B3:∀(dn:Nat) {dB0 dB1 dB2 dB3 dB4 dB5 dB6 dB7 dB8 dB9 e4:Bool} {dQ0 dQ1 dQ2 dQ3 dQ4 dQ5 dQ6 dQ7 dQ8 dQ9 i5:PV},(dB0=true→dQ0=.own 17)→(dB1=true→dQ1=.ii n2)→(dB2=true→dQ2=.pt 17 (Int.toNat n2) 0)→(dB3=true→dQ3=.ii x15)→(dB4=true→dQ4=.pt 12 0 1)→(dB5=true→dQ5=.pt 12 0 5)→(dB6=true→dQ6=.ii a1)→(dB7=true→dQ7=.pt 12 0 1)→(dB8=true→dQ8=.pt 12 0 8)→(dB9=true→dQ9=.str a0)→(e4=true→i5=.agg [.ii x15,.ii a1,.str a0])→(dB2=true→dB0=true)→(dB2=true→dB1=true)→(dB3=true→dB2=true)→(dB5=true→dB4=true)→(dB6=true→dB5=true)→(dB8=true→dB7=true)→(dB9=true→dB8=true)→(e4=true→dB3=true)→(e4=true→dB6=true)→(e4=true→dB9=true)→cntF [dB0,dB1,dB2,dB3,dB4,dB5,dB6,dB7,dB8,dB9,e4,true,false]=dn→dwp T ⟨Real Tryz.prog,RealM Tryz.prog,RealC Tryz.prog⟩ dR dK dn [dB0,dB1,dB2,dB3,dB4,dB5,dB6,dB7,dB8,dB9,e4,true,false] ({sl:=[.sl 9 b3,.ii v,.bad,.bad,.bad,.own 17,.bad,.bad,.bad,.bad,.own 54,.ii n2,.pt 12 0 0,.bool e6,.pt 14 0 0,.bad,.bad,.bad,.bad,.bad,.bad,.bad,.bad,.bad,.bad,.bad,.bad,.bad,.bad,.bad,.bad,.bad,.bad,.bad,.bad,.bad,.bad,.bad,.bad,.bad,.bad,.bad,.bad,.bad,.bad,.bad,.bad,.bad,.bad,.bad,.bad,.bad,.bad,.bad,.bad,.ii n2,.own 17,.ii (A.rlen R),.bool (A.cmp .lss n2 (A.rlen R)),.bad,.bad,.tup [.agg [.ii c2,.ii a9,.ii a5,.ii b0,.ii a8,.ii a1,.str a6,.str a7,.str a0],.bool e6],.sl 9 b3,.ii v,.own 17,.ii n2,.pt 17 (Int.toNat n2) 0,.ii x15,.tup [.agg [.ii c2,.ii a9,.ii a5,.ii b0,.ii a8,.ii a1,.str a6,.str a7,.str a0],.bool e6],.agg [.ii c2,.ii a9,.ii a5,.ii b0,.ii a8,.ii a1,.str a6,.str a7,.str a0],.bool e6,dQ0,dQ1,dQ2,dQ3,dQ4,dQ5,dQ6,dQ7,dQ8,dQ9,i5,.bad,.bad,.bad,.bad,.bad,.bad,.bad,.bad,.bad,.bad,.bad,.bad,.bad,.bad,.bad,.bad,.bad,.bad,.bad,.bad],bl:=[(12,⟨.var,9,[[.ii c2,.ii a9,.ii a5,.ii b0,.ii a8,.ii a1,.str a6,.str a7,.str a0]]⟩),(14,⟨.var,3,[[.ii 0,.ii 0,.str ByteArray.empty]]⟩),(17,⟨.arr,1,R⟩),(54,⟨.arr,3,R2⟩)]}:St):=by
    intro dn
    induction dn with
    | zero=>
     intro dB0 dB1 dB2 dB3 dB4 dB5 dB6 dB7 dB8 dB9 e4 dQ0 dQ1 dQ2 dQ3 dQ4 dQ5 dQ6 dQ7 dQ8 dQ9 i5 dh0 dh1 dh2 dh3 dh4 dh5 dh6 dh7 dh8 dh9 b5 f2 f5 f6 b1 f3 b2 f4 f0 e9 a4 dhn
     exact absurd (show false=true from cntF_zero _ dhn 12 (by show 12 < 13;decide)) (by decide)
    | succ dn ih=>
     intro dB0 dB1 dB2 dB3 dB4 dB5 dB6 dB7 dB8 dB9 e4 dQ0 dQ1 dQ2 dQ3 dQ4 dQ5 dQ6 dQ7 dQ8 dQ9 i5 dh0 dh1 dh2 dh3 dh4 dh5 dh6 dh7 dh8 dh9 b5 f2 f5 f6 b1 f3 b2 f4 f0 e9 a4 dhn
     subst dhR
     refine dwp_next (is:=[0,1,2,3,4,5,6,7,8,9,10,11,12]) rfl ?_
     refine aq (fun h0 h1=> ?_) ?_
     ·
      cases (show dB0=false from h0)
      refine rn hA 1 ?_
      refine ow_ ?_
      exact ih rf dh1 dh2 dh3 dh4 dh5 dh6 dh7 dh8 dh9 b5 rf f5 f6 b1 f3 b2 f4 f0 e9 a4 (cd h0 dhn)
     refine aq (fun h0 h1=> ?_) ?_
     ·
      cases (show dB1=false from h0)
      refine rn hA 1 ?_
      refine ow_ ?_
      exact ih dh0 rf dh2 dh3 dh4 dh5 dh6 dh7 dh8 dh9 b5 f2 rf f6 b1 f3 b2 f4 f0 e9 a4 (cd h0 dhn)
     refine aq (fun h0 h1=> ?_) ?_
     ·
      cases (show dB2=false from h0)
      obtain rfl:dB0=true:=h1.1
      cases dh0 rfl
      obtain rfl:dB1=true:=h1.2.1
      cases dh1 rfl
      refine ops_step rfl rfl (idx_own rfl rfl rfl rfl rfl rfl t3 s1 rfl) ?_
      refine ow_ ?_
      exact ih rf rf rf dh3 dh4 dh5 dh6 dh7 dh8 dh9 b5 rf rf rf b1 f3 b2 f4 f0 e9 a4 (cd h0 dhn)
     refine aq (fun h0 h1=> ?_) ?_
     ·
      cases (show dB3=false from h0)
      obtain rfl:dB2=true:=h1.1
      cases dh2 rfl;cases f2 rfl;cases dh0 rfl;cases f5 rfl;cases dh1 rfl
      refine ops_step rfl rfl (ld_arr rfl rfl rfl rfl t5 rfl) ?_
      refine ow_ ?_
      exact ih rf rf rf rf dh4 dh5 dh6 dh7 dh8 dh9 b5 rf rf rf b1 f3 b2 f4 rf e9 a4 (cd h0 dhn)
     refine aq (fun h0 h1=> ?_) ?_
     ·
      cases (show dB4=false from h0)
      refine rn hA 1 ?_
      refine ow_ ?_
      exact ih dh0 dh1 dh2 dh3 rf dh5 dh6 dh7 dh8 dh9 b5 f2 f5 f6 rf f3 b2 f4 f0 e9 a4 (cd h0 dhn)
     refine aq (fun h0 h1=> ?_) ?_
     ·
      cases (show dB5=false from h0)
      obtain rfl:dB4=true:=h1.1
      cases dh4 rfl
      refine rn hA 1 ?_
      refine ow_ ?_
      exact ih dh0 dh1 dh2 dh3 rf rf dh6 dh7 dh8 dh9 b5 f2 f5 f6 rf rf b2 f4 f0 e9 a4 (cd h0 dhn)
     refine aq (fun h0 h1=> ?_) ?_
     ·
      cases (show dB6=false from h0)
      obtain rfl:dB5=true:=h1.1
      cases dh5 rfl;cases b1 rfl;cases dh4 rfl
      refine rn hA 1 ?_
      refine ow_ ?_
      exact ih dh0 dh1 dh2 dh3 rf rf rf dh7 dh8 dh9 b5 f2 f5 f6 rf rf b2 f4 f0 rf a4 (cd h0 dhn)
     refine aq (fun h0 h1=> ?_) ?_
     ·
      cases (show dB7=false from h0)
      refine rn hA 1 ?_
      refine ow_ ?_
      exact ih dh0 dh1 dh2 dh3 dh4 dh5 dh6 rf dh8 dh9 b5 f2 f5 f6 b1 f3 rf f4 f0 e9 a4 (cd h0 dhn)
     refine aq (fun h0 h1=> ?_) ?_
     ·
      cases (show dB8=false from h0)
      obtain rfl:dB7=true:=h1.1
      cases dh7 rfl
      refine rn hA 1 ?_
      refine ow_ ?_
      exact ih dh0 dh1 dh2 dh3 dh4 dh5 dh6 rf rf dh9 b5 f2 f5 f6 b1 f3 rf rf f0 e9 a4 (cd h0 dhn)
     refine aq (fun h0 h1=> ?_) ?_
     ·
      cases (show dB9=false from h0)
      obtain rfl:dB8=true:=h1.1
      cases dh8 rfl;cases b2 rfl;cases dh7 rfl
      refine rn hA 1 ?_
      refine ow_ ?_
      exact ih dh0 dh1 dh2 dh3 dh4 dh5 dh6 rf rf rf b5 f2 f5 f6 b1 f3 rf rf f0 e9 rf (cd h0 dhn)
     refine aq (fun h0 h1=> ?_) ?_
     ·
      cases (show e4=false from h0)
      obtain rfl:dB3=true:=h1.1
      cases dh3 rfl;cases f6 rfl;cases dh2 rfl;cases f2 rfl;cases dh0 rfl;cases f5 rfl;cases dh1 rfl
      obtain rfl:dB6=true:=h1.2.1
      cases dh6 rfl;cases f3 rfl;cases dh5 rfl;cases b1 rfl;cases dh4 rfl
      obtain rfl:dB9=true:=h1.2.2.1
      cases dh9 rfl;cases f4 rfl;cases dh8 rfl;cases b2 rfl;cases dh7 rfl
      refine rn hA 1 ?_
      refine ow_ ?_
      exact ih rf rf rf rf rf rf rf rf rf rf rf rf rf rf rf rf rf rf rf rf rf (cd h0 dhn)
     refine an ?_
     refine aq (fun h0 h1=> ?_) ?_
     ·
      obtain rfl:e4=true:=h1.2.1
      cases b5 rfl;cases f0 rfl;cases dh3 rfl;cases f6 rfl;cases dh2 rfl;cases f2 rfl;cases dh0 rfl;cases f5 rfl;cases dh1 rfl;cases e9 rfl;cases dh6 rfl;cases f3 rfl;cases dh5 rfl;cases b1 rfl;cases dh4 rfl;cases a4 rfl;cases dh9 rfl;cases f4 rfl;cases dh8 rfl;cases b2 rfl;cases dh7 rfl
      refine rn hA 1 ?_
      refine ow_ ?_
      exact x6 dn (cd h0 dhn)
     exact trivial
   have H_:∀(dn:Nat) {dB0 dB1 dB2 dB3 dB4 dB5 dB6 dB7 dB8 dB9 e4:Bool} {dQ0 dQ1 dQ2 dQ3 dQ4 dQ5 dQ6 dQ7 dQ8 dQ9 i5:PV},(dB0=true→dQ0=.own 17)→(dB1=true→dQ1=.ii n2)→(dB2=true→dQ2=.pt 17 (Int.toNat n2) 0)→(dB3=true→dQ3=.ii x15)→(dB4=true→dQ4=.pt 12 0 1)→(dB5=true→dQ5=.pt 12 0 5)→(dB6=true→dQ6=.ii a1)→(dB7=true→dQ7=.pt 12 0 1)→(dB8=true→dQ8=.pt 12 0 8)→(dB9=true→dQ9=.str a0)→(e4=true→i5=.agg [.ii x15,.ii a1,.str a0])→(dB2=true→dB0=true)→(dB2=true→dB1=true)→(dB3=true→dB2=true)→(dB5=true→dB4=true)→(dB6=true→dB5=true)→(dB8=true→dB7=true)→(dB9=true→dB8=true)→(e4=true→dB3=true)→(e4=true→dB6=true)→(e4=true→dB9=true)→cntF [dB0,dB1,dB2,dB3,dB4,dB5,dB6,dB7,dB8,dB9,e4,false,false]=dn→dwp T ⟨Real Tryz.prog,RealM Tryz.prog,RealC Tryz.prog⟩ dR dK dn [dB0,dB1,dB2,dB3,dB4,dB5,dB6,dB7,dB8,dB9,e4,false,false] ({sl:=[.sl 9 b3,.ii v,.bad,.bad,.bad,.own 17,.bad,.bad,.bad,.bad,.own 54,.ii n2,.pt 12 0 0,.bool e6,.bad,.bad,.bad,.bad,.bad,.bad,.bad,.bad,.bad,.bad,.bad,.bad,.bad,.bad,.bad,.bad,.bad,.bad,.bad,.bad,.bad,.bad,.bad,.bad,.bad,.bad,.bad,.bad,.bad,.bad,.bad,.bad,.bad,.bad,.bad,.bad,.bad,.bad,.bad,.bad,.bad,.ii n2,.own 17,.ii (A.rlen R),.bool (A.cmp .lss n2 (A.rlen R)),.bad,.bad,.tup [.agg [.ii c2,.ii a9,.ii a5,.ii b0,.ii a8,.ii a1,.str a6,.str a7,.str a0],.bool e6],.sl 9 b3,.ii v,.own 17,.ii n2,.pt 17 (Int.toNat n2) 0,.ii x15,.tup [.agg [.ii c2,.ii a9,.ii a5,.ii b0,.ii a8,.ii a1,.str a6,.str a7,.str a0],.bool e6],.agg [.ii c2,.ii a9,.ii a5,.ii b0,.ii a8,.ii a1,.str a6,.str a7,.str a0],.bool e6,dQ0,dQ1,dQ2,dQ3,dQ4,dQ5,dQ6,dQ7,dQ8,dQ9,i5,.bad,.bad,.bad,.bad,.bad,.bad,.bad,.bad,.bad,.bad,.bad,.bad,.bad,.bad,.bad,.bad,.bad,.bad,.bad,.bad],bl:=[(12,⟨.var,9,[[.ii c2,.ii a9,.ii a5,.ii b0,.ii a8,.ii a1,.str a6,.str a7,.str a0]]⟩),(17,⟨.arr,1,R⟩),(54,⟨.arr,3,R2⟩)]}:St):=by
    intro dn
    induction dn with
    | zero=>
     intro dB0 dB1 dB2 dB3 dB4 dB5 dB6 dB7 dB8 dB9 e4 dQ0 dQ1 dQ2 dQ3 dQ4 dQ5 dQ6 dQ7 dQ8 dQ9 i5 dh0 dh1 dh2 dh3 dh4 dh5 dh6 dh7 dh8 dh9 b5 f2 f5 f6 b1 f3 b2 f4 f0 e9 a4 dhn
     exact absurd (show false=true from cntF_zero _ dhn 11 (by show 11 < 13;decide)) (by decide)
    | succ dn ih=>
     intro dB0 dB1 dB2 dB3 dB4 dB5 dB6 dB7 dB8 dB9 e4 dQ0 dQ1 dQ2 dQ3 dQ4 dQ5 dQ6 dQ7 dQ8 dQ9 i5 dh0 dh1 dh2 dh3 dh4 dh5 dh6 dh7 dh8 dh9 b5 f2 f5 f6 b1 f3 b2 f4 f0 e9 a4 dhn
     subst dhR
     refine dwp_next (is:=[0,1,2,3,4,5,6,7,8,9,10,11,12]) rfl ?_
     refine aq (fun h0 h1=> ?_) ?_
     ·
      cases (show dB0=false from h0)
      refine rn hA 1 ?_
      refine ow_ ?_
      exact ih rf dh1 dh2 dh3 dh4 dh5 dh6 dh7 dh8 dh9 b5 rf f5 f6 b1 f3 b2 f4 f0 e9 a4 (cd h0 dhn)
     refine aq (fun h0 h1=> ?_) ?_
     ·
      cases (show dB1=false from h0)
      refine rn hA 1 ?_
      refine ow_ ?_
      exact ih dh0 rf dh2 dh3 dh4 dh5 dh6 dh7 dh8 dh9 b5 f2 rf f6 b1 f3 b2 f4 f0 e9 a4 (cd h0 dhn)
     refine aq (fun h0 h1=> ?_) ?_
     ·
      cases (show dB2=false from h0)
      obtain rfl:dB0=true:=h1.1
      cases dh0 rfl
      obtain rfl:dB1=true:=h1.2.1
      cases dh1 rfl
      refine ops_step rfl rfl (idx_own rfl rfl rfl rfl rfl rfl t3 s1 rfl) ?_
      refine ow_ ?_
      exact ih rf rf rf dh3 dh4 dh5 dh6 dh7 dh8 dh9 b5 rf rf rf b1 f3 b2 f4 f0 e9 a4 (cd h0 dhn)
     refine aq (fun h0 h1=> ?_) ?_
     ·
      cases (show dB3=false from h0)
      obtain rfl:dB2=true:=h1.1
      cases dh2 rfl;cases f2 rfl;cases dh0 rfl;cases f5 rfl;cases dh1 rfl
      refine ops_step rfl rfl (ld_arr rfl rfl rfl rfl t5 rfl) ?_
      refine ow_ ?_
      exact ih rf rf rf rf dh4 dh5 dh6 dh7 dh8 dh9 b5 rf rf rf b1 f3 b2 f4 rf e9 a4 (cd h0 dhn)
     refine aq (fun h0 h1=> ?_) ?_
     ·
      cases (show dB4=false from h0)
      refine rn hA 1 ?_
      refine ow_ ?_
      exact ih dh0 dh1 dh2 dh3 rf dh5 dh6 dh7 dh8 dh9 b5 f2 f5 f6 rf f3 b2 f4 f0 e9 a4 (cd h0 dhn)
     refine aq (fun h0 h1=> ?_) ?_
     ·
      cases (show dB5=false from h0)
      obtain rfl:dB4=true:=h1.1
      cases dh4 rfl
      refine rn hA 1 ?_
      refine ow_ ?_
      exact ih dh0 dh1 dh2 dh3 rf rf dh6 dh7 dh8 dh9 b5 f2 f5 f6 rf rf b2 f4 f0 e9 a4 (cd h0 dhn)
     refine aq (fun h0 h1=> ?_) ?_
     ·
      cases (show dB6=false from h0)
      obtain rfl:dB5=true:=h1.1
      cases dh5 rfl;cases b1 rfl;cases dh4 rfl
      refine rn hA 1 ?_
      refine ow_ ?_
      exact ih dh0 dh1 dh2 dh3 rf rf rf dh7 dh8 dh9 b5 f2 f5 f6 rf rf b2 f4 f0 rf a4 (cd h0 dhn)
     refine aq (fun h0 h1=> ?_) ?_
     ·
      cases (show dB7=false from h0)
      refine rn hA 1 ?_
      refine ow_ ?_
      exact ih dh0 dh1 dh2 dh3 dh4 dh5 dh6 rf dh8 dh9 b5 f2 f5 f6 b1 f3 rf f4 f0 e9 a4 (cd h0 dhn)
     refine aq (fun h0 h1=> ?_) ?_
     ·
      cases (show dB8=false from h0)
      obtain rfl:dB7=true:=h1.1
      cases dh7 rfl
      refine rn hA 1 ?_
      refine ow_ ?_
      exact ih dh0 dh1 dh2 dh3 dh4 dh5 dh6 rf rf dh9 b5 f2 f5 f6 b1 f3 rf rf f0 e9 a4 (cd h0 dhn)
     refine aq (fun h0 h1=> ?_) ?_
     ·
      cases (show dB9=false from h0)
      obtain rfl:dB8=true:=h1.1
      cases dh8 rfl;cases b2 rfl;cases dh7 rfl
      refine rn hA 1 ?_
      refine ow_ ?_
      exact ih dh0 dh1 dh2 dh3 dh4 dh5 dh6 rf rf rf b5 f2 f5 f6 b1 f3 rf rf f0 e9 rf (cd h0 dhn)
     refine aq (fun h0 h1=> ?_) ?_
     ·
      cases (show e4=false from h0)
      obtain rfl:dB3=true:=h1.1
      cases dh3 rfl;cases f6 rfl;cases dh2 rfl;cases f2 rfl;cases dh0 rfl;cases f5 rfl;cases dh1 rfl
      obtain rfl:dB6=true:=h1.2.1
      cases dh6 rfl;cases f3 rfl;cases dh5 rfl;cases b1 rfl;cases dh4 rfl
      obtain rfl:dB9=true:=h1.2.2.1
      cases dh9 rfl;cases f4 rfl;cases dh8 rfl;cases b2 rfl;cases dh7 rfl
      refine rn hA 1 ?_
      refine ow_ ?_
      exact ih rf rf rf rf rf rf rf rf rf rf rf rf rf rf rf rf rf rf rf rf rf (cd h0 dhn)
     refine aq (fun h0 h1=> ?_) ?_
     ·
      refine rn hA 1 ?_
      refine ops_done (dwp_to [.up 54,.up 17,.up 14,.up 12] (by cbv) rfl ?_)
      exact B3 dn dh0 dh1 dh2 dh3 dh4 dh5 dh6 dh7 dh8 dh9 b5 f2 f5 f6 b1 f3 b2 f4 f0 e9 a4 (cd h0 dhn)
     refine allRdy_q rfl rfl (fun _ h1=>absurd (show false=true from h1.1) (by decide)) ?_
     exact trivial
   exact dwp_to [] (by cbv) rfl (@H_ 13 false false false false false false false false false false false (.bad) (.bad) (.bad) (.bad) (.bad) (.bad) (.bad) (.bad) (.bad) (.bad) (.bad) nf nf nf nf nf nf nf nf nf nf nf nf nf nf nf nf nf nf nf nf nf rfl)
  refine gs (gr (rn hA 4 ?_))
  have y1:n2 < (List.length R:Int):=by
   rw[hR,List.length_map];omega
  refine ops_step rfl rfl (idx_own rfl rfl rfl rfl rfl rfl t3 y1 rfl) ?_
  refine ops_step rfl rfl (ld_arr rfl rfl rfl rfl t5 rfl) ?_
  obtain⟨n9,j6,j2,k7,j9,e8,j8,k1,k0,r7,p9,n1,m4,n7,n6,m5,n5,n4,n0,o1,B0⟩:∃(n9:Int) (j6:Int) (j2:Int) (k7:Int) (j9:Int) (e8:Int) (j8:ByteArray) (k1:ByteArray) (k0:ByteArray) (r7:Bool),n9=((Option.getD (lat (mailIs 4 v x15) bySeqB xs) zItem).Seq)∧j6=(((Option.getD (lat (mailIs 4 v x15) bySeqB xs) zItem).Rec).Kind)∧j2=(((Option.getD (lat (mailIs 4 v x15) bySeqB xs) zItem).Rec).Valid)∧k7=(((Option.getD (lat (mailIs 4 v x15) bySeqB xs) zItem).Rec).Uid)∧j9=(((Option.getD (lat (mailIs 4 v x15) bySeqB xs) zItem).Rec).Next)∧e8=(((Option.getD (lat (mailIs 4 v x15) bySeqB xs) zItem).Rec).Flags)∧j8=(((Option.getD (lat (mailIs 4 v x15) bySeqB xs) zItem).Rec).User)∧k1=(((Option.getD (lat (mailIs 4 v x15) bySeqB xs) zItem).Rec).Name)∧k0=(((Option.getD (lat (mailIs 4 v x15) bySeqB xs) zItem).Rec).Text)∧r7=(Option.isSome (lat (mailIs 4 v x15) bySeqB xs))∧Real Tryz.prog 55 [.sl 9 b3,.ii 4,.ii v,.ii x15] (.tup [.agg [.ii n9,.ii j6,.ii j2,.ii k7,.ii j9,.ii e8,.str j8,.str k1,.str k0],.bool r7]):=⟨_,_,_,_,_,_,_,_,_,_,rfl,rfl,rfl,rfl,rfl,rfl,rfl,rfl,rfl,rfl,by subst i6;exact r_spec_l07Best A hA xs 4 v x15 (by omega)⟩
  refine cvw B0 (.inr rfl) ?_
  refine rz hA 6 ?_
  refine gs (gx hA 1 ?_)
  refine gc (fun c23=> ?_) (fun c23=> ?_)
  ·
   refine gy hA 5 ?_
   refine gr (rn hA 3 ?_)
   obtain⟨r24,x8⟩:=nm (R2++[[.ii x15,.ii e8,.str a0]]:RR)
   have y5:r24=List.map eoMail ((List.map (mailR v xs) (List.take k (insF (uidQ v xs) GRec.Uid (xs.take i))))++([(⟨x15,e8,a0⟩:GMail)])):=by rw[x8];exact app_eq hR2 (by rfl)
   have C7:=rlen_map hA y5
   refine ops_step rfl rfl (app_own rfl rfl rfl rfl rfl rfl rfl rfl x8 (by cbv) (by cbv) (by cbv) rfl (by
    show(List.length R2+List.length ([[.ii x15,.ii e8,.str a0]])) * _≤_
    have h1:=insF_lt (uidQ v xs) GRec.Uid xs i
    show(List.length R2+1) * 32≤_
    rw[hR2,List.length_map,List.length_map,List.length_take];omega) (by decide) (by decide)) ?_
   refine rz hA 1 ?_
   refine gy hA 3 ?_
   refine⟨(S59_2 b3 v (A.num .add .i64 n2 1) R r24),List.length (insF (uidQ v xs) GRec.Uid (xs.take i)) - (k+1),?_,by cbv,k+1,(A.num .add .i64 n2 1),r24,rfl,?_,rfl⟩
   ·
    omega
   have hM:mailR v xs x15=(⟨x15,e8,a0⟩:GMail):=by
    unfold mailR mailX
    rw[if_pos (by rw[← o1,c23])]
    simp only[q0,m7,m2,n8,n3,m3,m6,m9,m8,t1,p9,n1,m4,n7,n6,m5,n5,n4,n0,o1]
   refine⟨by rw[add_i64 hA (by omega) (by omega)];omega,by omega,?_⟩
   rw[map_tk s3,hM]
   exact y5
  refine gk (gr (rn hA 3 ?_))
  obtain⟨r25,z0⟩:=nm (R2++[[.ii x15,.ii a1,.str a0]]:RR)
  have y4:r25=List.map eoMail ((List.map (mailR v xs) (List.take k (insF (uidQ v xs) GRec.Uid (xs.take i))))++([(⟨x15,a1,a0⟩:GMail)])):=by rw[z0];exact app_eq hR2 (by rfl)
  have C8:=rlen_map hA y4
  refine ops_step rfl rfl (app_own rfl rfl rfl rfl rfl rfl rfl rfl z0 (by cbv) (by cbv) (by cbv) rfl (by
   show(List.length R2+List.length ([[.ii x15,.ii a1,.str a0]])) * _≤_
   have h1:=insF_lt (uidQ v xs) GRec.Uid xs i
   show(List.length R2+1) * 32≤_
   rw[hR2,List.length_map,List.length_map,List.length_take];omega) (by decide) (by decide)) ?_
  refine rz hA 1 ?_
  refine gy hA 3 ?_
  refine⟨(S59_2 b3 v (A.num .add .i64 n2 1) R r25),List.length (insF (uidQ v xs) GRec.Uid (xs.take i)) - (k+1),?_,by cbv,k+1,(A.num .add .i64 n2 1),r25,rfl,?_,rfl⟩
  ·
   omega
  have hM:mailR v xs x15=(⟨x15,a1,a0⟩:GMail):=by
   unfold mailR mailX
   rw[if_neg (by rw[← o1,c23];decide)]
   simp only[q0,m7,m2,n8,n3,m3,m6,m9,m8,t1,p9,n1,m4,n7,n6,m5,n5,n4,n0,o1]
  refine⟨by rw[add_i64 hA (by omega) (by omega)];omega,by omega,?_⟩
  rw[map_tk s3,hM]
  exact y4
 have B9:(A.rlen R)≤n2:=lss_f hA c14
 refine go_exit ⟨fun _=> ?_,fun h=>absurd rfl h⟩
 refine gx hA 2 ?_
 refine rt (gt ?_)
 refine congrArg (PV.ow 3) ?_
 rw[hR2,List.take_of_length_le (by omega),List.take_of_length_le (by omega)]
 rfl
def S29_1 (p0:RR)(p1:Int)(p2:RR):St:={sl:=[.sl 9 p0,.bad,.pt 2 0 0,.pt 3 0 0,.own 16,.ii p1,.bad,.bad,.bad,.bad,.bad,.bad,.bad,.bad,.bad,.bad,.bad,.bad,.bad,.bad,.bad,.bad,.bad,.bad,.bad,.bad,.bad,.bad,.bad,.bad,.bad,.bad,.bad,.bad,.bad,.bad,.bad,.bad,.bad,.bad,.bad,.bad,.bad,.bad,.bad,.bad,.bad,.bad,.bad,.bad,.bad,.bad,.bad,.bad,.bad,.bad,.bad,.bad,.bad,.bad,.bad,.bad,.bad,.bad,.bad,.bad,.bad,.bad,.bad,.bad,.bad,.bad,.bad,.bad,.bad,.bad,.bad,.bad,.bad,.bad,.bad,.bad,.bad,.bad,.bad,.bad,.bad],bl:=[(2,⟨.var,1,[[.zc]]⟩),(3,⟨.var,1,[[.zc]]⟩),(16,⟨.arr,1,p2⟩)]}
def S29_2 (p0:RR)(p1:Int)(p2:RR)(p3:RR):St:={sl:=[.sl 9 p0,.bad,.pt 2 0 0,.pt 3 0 0,.own 16,.bad,.bad,.bad,.bad,.ii p1,.bad,.bad,.bad,.bad,.bad,.bad,.bad,.bad,.bad,.bad,.bad,.bad,.bad,.bad,.bad,.bad,.bad,.bad,.bad,.bad,.bad,.bad,.bad,.bad,.bad,.bad,.bad,.bad,.bad,.bad,.bad,.bad,.bad,.bad,.bad,.bad,.bad,.bad,.bad,.bad,.bad,.bad,.bad,.bad,.bad,.bad,.bad,.bad,.bad,.bad,.bad,.bad,.bad,.bad,.bad,.bad,.bad,.bad,.bad,.bad,.bad,.bad,.bad,.bad,.bad,.bad,.bad,.bad,.bad,.bad,.bad,.bad,.bad,.bad,.bad,.bad,.bad],bl:=[(2,⟨.var,1,[[.zc]]⟩),(3,⟨.var,1,[[.own 7003]]⟩),(16,⟨.arr,1,p2⟩),(7003,⟨.arr,5,p3⟩)]}
theorem r_spec_StateOf (A:Alg)(hA:A=std)(xs:List GItem)(hz:∀ q∈zsItemS xs,q≤1048576):Real Tryz.prog 29 [.sl 9 (List.map eItem xs)] (.agg (eoState (stateS xs))):=by
 obtain⟨b3,i6⟩:=nm (xs.map eItem)
 have z3:=rlen_map hA i6
 refine real_args (args':=[.sl 9 b3]) (by subst i6;rfl) ?_
 have hx:List.length xs≤1048576:=hz _ (List.mem_cons_self ..)
 have hzI:∀ q∈zsItemS xs,(q:Int)≤4611686018427387904:=fun q hq=>by have:=hz q hq;omega
 refine real tyOk Tryz.func29 (by kernel_rfl) (afun_of rfl ?_)
 refine gx hA 1 ?_
 refine gx hA 3 ?_
 refine gs (gs (gr (rn hA 1 ?_)))
 obtain⟨s7,t8,hc2⟩:∃(s7:Bool),s7=(itemsOk xs)∧Real Tryz.prog 54 [.sl 9 b3] (.bool s7):=⟨_,rfl,by subst i6;exact r_spec_ItemsOk A hA xs hzI⟩
 refine cvw hc2 (.inr rfl) ?_
 refine rz hA 1 ?_
 refine gc (fun c3=> ?_) (fun c3=> ?_)
 ·
  have c4:s7=false:=bnot_t hA c3
  refine gs (gB (rn hA 2 ?_))
  refine ops_doneB (tw:=[.cell 2 0 9001 5]) (by cbv) ?_
  refine rt (gt ?_)
  show _=(PV.agg [.ow 5 ([])])
  have hS:stateS xs=⟨[]⟩:=by rw[stateS,if_neg (by rw[← t8,c4];decide)]
  rw[hS]
  rfl
 have c5:s7=true:=bnot_f hA c3
 refine gk (gs ?_)
 have hok:itemsOk xs=true:=by rw[← t8,c5]
 have hq:∀ x∈xs,1≤x.Seq:=fun x hx=>(items_seq hok hx).1
 refine gy hA 2 ?_
 refine gs (gx hA 1 ?_)
 refine go_block ?_
 refine go_loopE (fun σ m=>∃(i:Nat) (n:Int) (R:RR),σ=(S29_1 b3 n R)∧(n=(i:Int)∧i≤List.length xs∧R=List.map eInt (insF (boxQ xs) GRec.Valid (xs.take i)))∧m=List.length xs - i) _ [.up 16,.up 3,.up 2] [0,2,3,4,5] [2,3,16] (S29_1 b3 0 ([])) rfl (by cbv) ⟨0,0,[],rfl,?_,rfl⟩ (fun σ m hI=> ?_)
 ·
  exact⟨rfl,Nat.zero_le _,rfl⟩
 obtain⟨i,n,R,rfl,⟨hn,hi,hR⟩,rfl⟩:=hI
 have hul:=insF_lt (boxQ xs) GRec.Valid xs i
 have lR:=rlen_map hA hR
 refine gs (gx hA 4 ?_)
 refine gc (fun c6=> ?_) (fun c6=> ?_)
 ·
  have ec6:n < (A.rlen b3):=lss_t hA c6
  refine gk (gs ?_)
  refine go_block ?_
  refine gs (gr (rn hA 2 ?_))
  have B4:(0:Int)≤n:=by
   omega
  have B5:(Int.toNat n) < List.length xs:=by
   omega
  obtain⟨x7,hx7⟩:∃ x,(xs)[(Int.toNat n)]? =some x:=⟨_,List.getElem?_eq_getElem B5⟩
  have C9:=List.mem_of_getElem? hx7
  obtain⟨q1,⟨i1,b8,l9,k4,j3,k3,k5,k6⟩⟩:=x7
  have z5:b3[(Int.toNat n)]? =some [.ii q1,.ii i1,.ii b8,.ii l9,.ii k4,.ii j3,.str k3,.str k5,.str k6]:=by
   exact map_at eItem i6 hx7
  have s8:=hx7
  rw[hn] at s8
  have s8:(xs)[i]? =some (⟨q1,⟨i1,b8,l9,k4,j3,k3,k5,k6⟩⟩:GItem):=s8
  refine ops_step rfl rfl (idx_sl rfl rfl rfl rfl rfl B4 rfl z5) ?_
  refine rz hA 4 ?_
  refine gs (gr (rn hA 3 ?_))
  obtain⟨o2,l0,j5,m1,l6,k2,l1,l3,l2,o7,y2,w5,v5,x3,w3,v7,w4,v9,w7,r9,hc9⟩:∃(o2:Int) (l0:Int) (j5:Int) (m1:Int) (l6:Int) (k2:Int) (l1:ByteArray) (l3:ByteArray) (l2:ByteArray) (o7:Bool),o2=((Option.getD (lat (mailIs 2 b8 0) bySeqB xs) zItem).Seq)∧l0=(((Option.getD (lat (mailIs 2 b8 0) bySeqB xs) zItem).Rec).Kind)∧j5=(((Option.getD (lat (mailIs 2 b8 0) bySeqB xs) zItem).Rec).Valid)∧m1=(((Option.getD (lat (mailIs 2 b8 0) bySeqB xs) zItem).Rec).Uid)∧l6=(((Option.getD (lat (mailIs 2 b8 0) bySeqB xs) zItem).Rec).Next)∧k2=(((Option.getD (lat (mailIs 2 b8 0) bySeqB xs) zItem).Rec).Flags)∧l1=(((Option.getD (lat (mailIs 2 b8 0) bySeqB xs) zItem).Rec).User)∧l3=(((Option.getD (lat (mailIs 2 b8 0) bySeqB xs) zItem).Rec).Name)∧l2=(((Option.getD (lat (mailIs 2 b8 0) bySeqB xs) zItem).Rec).Text)∧o7=(Option.isSome (lat (mailIs 2 b8 0) bySeqB xs))∧Real Tryz.prog 55 [.sl 9 b3,.ii 2,.ii b8,.ii 0] (.tup [.agg [.ii o2,.ii l0,.ii j5,.ii m1,.ii l6,.ii k2,.str l1,.str l3,.str l2],.bool o7]):=⟨_,_,_,_,_,_,_,_,_,_,rfl,rfl,rfl,rfl,rfl,rfl,rfl,rfl,rfl,rfl,by subst i6;exact r_spec_l07Best A hA xs 2 b8 0 (by omega)⟩
  refine cvw hc9 (.inr rfl) ?_
  refine rz hA 6 ?_
  refine gs (gr (rn hA 4 ?_))
  refine ops_split 38 rfl (fun c10=> ?_) (fun c10=> ?_)
  ·
   have t6:i1=1:=eql_t hA c10
   refine rz hA 3 ?_
   refine gc (fun c11=> ?_) (fun c11=> ?_)
   ·
    have c12:o7=false:=bnot_t hA c11
    refine gB (rn hA 3 ?_)
    obtain⟨q7,s9,B1⟩:∃(q7:RR),q7=List.map eInt (insS (insF (boxQ xs) GRec.Valid (xs.take i)) b8)∧Real Tryz.prog 56 [.sl 1 (eraseR R),.ii b8] (.ow 1 q7):=⟨_,rfl,by subst hR;simp only[erR_Int];exact r_spec_l07Sorted A hA (insF (boxQ xs) GRec.Valid (xs.take i)) b8 (by omega)⟩
    have C1:=rlen_map hA s9
    refine cvw B1 (.inl (by simp only[fresh,freshL,s9,frR_Int,and_self])) ?_
    refine rn hA 1 ?_
    refine ops_doneB (tw:=[.drop 16,.ren 45 16,.up 16,.up 7,.up 6,.up 3,.up 2]) (by cbv) ?_
    refine gy hA 3 ?_
    refine⟨(S29_1 b3 (A.num .add .i64 n 1) q7),List.length xs - (i+1),?_,by cbv,i+1,(A.num .add .i64 n 1),q7,rfl,?_,rfl⟩
    ·
     omega
    have hQ:(boxQ xs) (GItem.Rec (⟨q1,⟨i1,b8,l9,k4,j3,k3,k5,k6⟩⟩:GItem))=true:=by
     unfold boxQ
     simp[boxP,← r9,c5,ec6,t6,c12]
    refine⟨by rw[add_i64 hA (by omega) (by omega)];omega,by omega,?_⟩
    rw[insF_at s8,if_pos (by rw[hQ])]
    exact s9
   have c15:o7=true:=bnot_f hA c11
   refine gk (gy hA 3 ?_)
   refine⟨(S29_1 b3 (A.num .add .i64 n 1) R),List.length xs - (i+1),?_,by cbv,i+1,(A.num .add .i64 n 1),R,rfl,?_,rfl⟩
   ·
    omega
   have hQ:(boxQ xs) (GItem.Rec (⟨q1,⟨i1,b8,l9,k4,j3,k3,k5,k6⟩⟩:GItem))=false:=by
    unfold boxQ
    simp[boxP,← r9,c5,ec6,t6,c15]
   refine⟨by rw[add_i64 hA (by omega) (by omega)];omega,by omega,?_⟩
   rw[insF_at s8,if_neg (by rw[hQ];decide)]
   exact hR
  have t6:i1≠1:=eql_f hA c10
  refine rz hA 3 ?_
  refine gc (fun c16=> ?_) (fun c16=> ?_)
  ·
   exact no_t c16 (show false=false from by rfl)
  refine gk (gy hA 3 ?_)
  refine⟨(S29_1 b3 (A.num .add .i64 n 1) R),List.length xs - (i+1),?_,by cbv,i+1,(A.num .add .i64 n 1),R,rfl,?_,rfl⟩
  ·
   omega
  have hQ:(boxQ xs) (GItem.Rec (⟨q1,⟨i1,b8,l9,k4,j3,k3,k5,k6⟩⟩:GItem))=false:=by
   unfold boxQ
   simp[boxP,← r9,c5,ec6,t6,t6.symm]
  refine⟨by rw[add_i64 hA (by omega) (by omega)];omega,by omega,?_⟩
  rw[insF_at s8,if_neg (by rw[hQ];decide)]
  exact hR
 have ec6:(A.rlen b3)≤n:=lss_f hA c6
 refine go_exit ⟨fun _=> ?_,fun h=>absurd rfl h⟩
 refine gs (gx hA 1 ?_)
 refine go_block ?_
 refine go_loopE (fun σ m=>∃(k:Nat) (n2:Int) (R2:RR),σ=(S29_2 b3 n2 R R2)∧(n2=(k:Int)∧k≤List.length (insF (boxQ xs) GRec.Valid (xs.take i))∧R2=List.map eoBox (List.map (boxR xs) (List.take k (insF (boxQ xs) GRec.Valid (xs.take i)))))∧m=List.length (insF (boxQ xs) GRec.Valid (xs.take i)) - k) _ [.cell 3 0 7003 5,.up 7003,.up 16,.up 3,.up 2] [0,2,3,4,9] [2,3,16,7003] (S29_2 b3 0 R ([])) rfl (by cbv) ⟨0,0,[],rfl,?_,rfl⟩ (fun σ m hI=> ?_)
 ·
  exact⟨rfl,Nat.zero_le _,rfl⟩
 obtain⟨k,n2,R2,rfl,⟨hk,hkl,hR2⟩,rfl⟩:=hI
 refine gs (gx hA 4 ?_)
 refine gc (fun c17=> ?_) (fun c17=> ?_)
 ·
  have B6:n2 < (A.rlen R):=lss_t hA c17
  refine gk (gs ?_)
  refine go_block ?_
  refine gs (gr (rn hA 3 ?_))
  have s5:(0:Int)≤n2:=by
   omega
  have z2:(Int.toNat n2) < List.length (insF (boxQ xs) GRec.Valid (xs.take i)):=by
   omega
  obtain⟨x18,x1⟩:∃ x,(insF (boxQ xs) GRec.Valid (xs.take i))[(Int.toNat n2)]? =some x:=⟨_,List.getElem?_eq_getElem z2⟩
  have C5:=List.mem_of_getElem? x1
  have s6:R[(Int.toNat n2)]? =some [.ii x18]:=by
   exact map_at eInt hR x1
  have t4:=x1
  rw[hk] at t4
  have t4:(insF (boxQ xs) GRec.Valid (xs.take i))[k]? =some x18:=t4
  have s1:n2 < (List.length R:Int):=by
   rw[hR,List.length_map];omega
  refine ops_step rfl rfl (idx_own rfl rfl rfl rfl rfl rfl s5 s1 rfl) ?_
  refine ops_step rfl rfl (ld_arr rfl rfl rfl rfl s6 rfl) ?_
  obtain⟨e5,c0,b7,d0,c9,b6,a2,a3,b9,t9,r4,r0,s4,r3,q9,r2,r6,r8,z7⟩:∃(e5:Int) (c0:Int) (b7:Int) (d0:Int) (c9:Int) (b6:Int) (a2:ByteArray) (a3:ByteArray) (b9:ByteArray),e5=((Option.getD (lat (kindIs 1 x18) byNextB xs) zItem).Seq)∧c0=(((Option.getD (lat (kindIs 1 x18) byNextB xs) zItem).Rec).Kind)∧b7=(((Option.getD (lat (kindIs 1 x18) byNextB xs) zItem).Rec).Valid)∧d0=(((Option.getD (lat (kindIs 1 x18) byNextB xs) zItem).Rec).Uid)∧c9=(((Option.getD (lat (kindIs 1 x18) byNextB xs) zItem).Rec).Next)∧b6=(((Option.getD (lat (kindIs 1 x18) byNextB xs) zItem).Rec).Flags)∧a2=(((Option.getD (lat (kindIs 1 x18) byNextB xs) zItem).Rec).User)∧a3=(((Option.getD (lat (kindIs 1 x18) byNextB xs) zItem).Rec).Name)∧b9=(((Option.getD (lat (kindIs 1 x18) byNextB xs) zItem).Rec).Text)∧Real Tryz.prog 57 [.sl 9 b3,.ii x18] (.agg [.ii e5,.ii c0,.ii b7,.ii d0,.ii c9,.ii b6,.str a2,.str a3,.str b9]):=⟨_,_,_,_,_,_,_,_,_,rfl,rfl,rfl,rfl,rfl,rfl,rfl,rfl,rfl,by subst i6;exact r_spec_l07Tell A hA xs x18 (by omega) hq⟩
  refine cvw z7 (.inr rfl) ?_
  refine rz hA 2 ?_
  have v8:n2 < (List.length R:Int):=by
   rw[hR,List.length_map];omega
  have y3:n2 < (List.length R:Int):=by
   rw[hR,List.length_map];omega
  obtain⟨f1,x5,B7⟩:∃(f1:Int),f1=(nextR x18 xs)∧Real Tryz.prog 58 [.sl 9 b3,.ii x18] (.ii f1):=⟨_,rfl,by subst i6;exact r_spec_l07Next A hA xs x18 (by omega) hok⟩
  have y8:n2 < (List.length R:Int):=by
   rw[hR,List.length_map];omega
  obtain⟨o0,t0,z8⟩:∃(o0:RR),o0=List.map eoMail (mailsR x18 xs)∧Real Tryz.prog 59 [.sl 9 b3,.ii x18] (.ow 3 o0):=⟨_,rfl,by subst i6;exact r_spec_l07Mails A hA xs x18 (by omega)⟩
  have C2:=rlen_map hA t0
  obtain⟨r29,y6⟩:=nm (R2++[[.ii x18,.str a2,.str a3,.ii f1,.ow 3 o0]]:RR)
  have x9:r29=List.map eoBox ((List.map (boxR xs) (List.take k (insF (boxQ xs) GRec.Valid (xs.take i))))++([(⟨x18,a2,a3,f1,mailsR x18 xs⟩:GBox)])):=by rw[y6];exact app_eq hR2 (by simp only[t0];rfl)
  have C6:=rlen_map hA x9
  refine go_drawE [0,1,2,3,4,5,6,7,8,9,10,11,12,13,14,15,16,17,18,19,20,21,22,23,24,25,26,27,28] (by cbv) rfl rfl ({sl:=[.sl 9 b3,.bad,.pt 2 0 0,.pt 3 0 0,.own 16,.bad,.bad,.bad,.bad,.ii n2,.pt 10 0 0,.bad,.bad,.bad,.bad,.bad,.bad,.bad,.bad,.bad,.bad,.bad,.bad,.bad,.bad,.bad,.bad,.bad,.bad,.bad,.bad,.bad,.bad,.bad,.bad,.bad,.bad,.bad,.bad,.bad,.bad,.bad,.bad,.bad,.bad,.bad,.ii n2,.own 16,.ii (A.rlen R),.bool (A.cmp .lss n2 (A.rlen R)),.bad,.bad,.sl 9 b3,.own 16,.ii n2,.pt 16 (Int.toNat n2) 0,.ii x18,.agg [.ii e5,.ii c0,.ii b7,.ii d0,.ii c9,.ii b6,.str a2,.str a3,.str b9],.pt 3 0 0,.bad,.own 16,.ii n2,.pt 16 (Int.toNat n2) 0,.ii x18,.pt 10 0 1,.pt 10 0 6,.str a2,.pt 10 0 1,.pt 10 0 7,.str a3,.sl 9 b3,.own 16,.ii n2,.pt 16 (Int.toNat n2) 0,.ii x18,.ii f1,.sl 9 b3,.own 16,.ii n2,.pt 16 (Int.toNat n2) 0,.ii x18,.bad,.agg [.ii x18,.str a2,.str a3,.ii f1,.bad],.bad,.own 7003,.pt 3 0 0,.bad],bl:=[(2,⟨.var,1,[[.zc]]⟩),(3,⟨.var,1,[[.own 7003]]⟩),(10,⟨.var,9,[[.ii e5,.ii c0,.ii b7,.ii d0,.ii c9,.ii b6,.str a2,.str a3,.str b9]]⟩),(16,⟨.arr,1,R⟩),(7003,⟨.arr,5,r29⟩)]}:St) (fun dR dK dhR dhF=> ?_) ?_
  ·
   have t2:∀(dn:Nat),cntF [true,true,true,true,true,true,true,true,true,true,true,true,true,true,true,true,true,true,true,true,true,true,true,true,true,true,true,true,true]=dn→dwp T ⟨Real Tryz.prog,RealM Tryz.prog,RealC Tryz.prog⟩ dR dK dn [true,true,true,true,true,true,true,true,true,true,true,true,true,true,true,true,true,true,true,true,true,true,true,true,true,true,true,true,true] ({sl:=[.sl 9 b3,.bad,.pt 2 0 0,.pt 3 0 0,.own 16,.bad,.bad,.bad,.bad,.ii n2,.pt 10 0 0,.bad,.bad,.bad,.bad,.bad,.bad,.bad,.bad,.bad,.bad,.bad,.bad,.bad,.bad,.bad,.bad,.bad,.bad,.bad,.bad,.bad,.bad,.bad,.bad,.bad,.bad,.bad,.bad,.bad,.bad,.bad,.bad,.bad,.bad,.bad,.ii n2,.own 16,.ii (A.rlen R),.bool (A.cmp .lss n2 (A.rlen R)),.bad,.bad,.sl 9 b3,.own 16,.ii n2,.pt 16 (Int.toNat n2) 0,.ii x18,.agg [.ii e5,.ii c0,.ii b7,.ii d0,.ii c9,.ii b6,.str a2,.str a3,.str b9],.pt 3 0 0,.bad,.own 16,.ii n2,.pt 16 (Int.toNat n2) 0,.ii x18,.pt 10 0 1,.pt 10 0 6,.str a2,.pt 10 0 1,.pt 10 0 7,.str a3,.sl 9 b3,.own 16,.ii n2,.pt 16 (Int.toNat n2) 0,.ii x18,.ii f1,.sl 9 b3,.own 16,.ii n2,.pt 16 (Int.toNat n2) 0,.ii x18,.bad,.agg [.ii x18,.str a2,.str a3,.ii f1,.bad],.bad,.own 7003,.pt 3 0 0,.bad],bl:=[(2,⟨.var,1,[[.zc]]⟩),(3,⟨.var,1,[[.own 7003]]⟩),(10,⟨.var,9,[[.ii e5,.ii c0,.ii b7,.ii d0,.ii c9,.ii b6,.str a2,.str a3,.str b9]]⟩),(16,⟨.arr,1,R⟩),(7003,⟨.arr,5,r29⟩)]}:St):=by
    intro dn
    induction dn with
    | zero=>
     intro dhn
     exact dwp_last dhF
    | succ dn ih=>
     intro dhn
     subst dhR
     refine dwp_next (is:=[0,1,2,3,4,5,6,7,8,9,10,11,12,13,14,15,16,17,18,19,20,21,22,23,24,25,26,27,28]) rfl ?_
     refine an ?_
     refine an ?_
     refine an ?_
     refine an ?_
     refine an ?_
     refine an ?_
     refine an ?_
     refine an ?_
     refine an ?_
     refine an ?_
     refine an ?_
     refine an ?_
     refine an ?_
     refine an ?_
     refine an ?_
     refine an ?_
     refine an ?_
     refine an ?_
     refine an ?_
     refine an ?_
     refine an ?_
     refine an ?_
     refine an ?_
     refine an ?_
     refine an ?_
     refine an ?_
     refine an ?_
     refine an ?_
     refine an ?_
     exact trivial
   have v3:∀(dn:Nat) {s0:Bool} {u5:PV},(s0=true→u5=.pt 3 0 0)→cntF [true,true,true,true,true,true,true,true,true,true,true,true,true,true,true,true,true,true,true,true,true,true,true,true,true,true,true,s0,false]=dn→dwp T ⟨Real Tryz.prog,RealM Tryz.prog,RealC Tryz.prog⟩ dR dK dn [true,true,true,true,true,true,true,true,true,true,true,true,true,true,true,true,true,true,true,true,true,true,true,true,true,true,true,s0,false] ({sl:=[.sl 9 b3,.bad,.pt 2 0 0,.pt 3 0 0,.own 16,.bad,.bad,.bad,.bad,.ii n2,.pt 10 0 0,.bad,.bad,.bad,.bad,.bad,.bad,.bad,.bad,.bad,.bad,.bad,.bad,.bad,.bad,.bad,.bad,.bad,.bad,.bad,.bad,.bad,.bad,.bad,.bad,.bad,.bad,.bad,.bad,.bad,.bad,.bad,.bad,.bad,.bad,.bad,.ii n2,.own 16,.ii (A.rlen R),.bool (A.cmp .lss n2 (A.rlen R)),.bad,.bad,.sl 9 b3,.own 16,.ii n2,.pt 16 (Int.toNat n2) 0,.ii x18,.agg [.ii e5,.ii c0,.ii b7,.ii d0,.ii c9,.ii b6,.str a2,.str a3,.str b9],.pt 3 0 0,.bad,.own 16,.ii n2,.pt 16 (Int.toNat n2) 0,.ii x18,.pt 10 0 1,.pt 10 0 6,.str a2,.pt 10 0 1,.pt 10 0 7,.str a3,.sl 9 b3,.own 16,.ii n2,.pt 16 (Int.toNat n2) 0,.ii x18,.ii f1,.sl 9 b3,.own 16,.ii n2,.pt 16 (Int.toNat n2) 0,.ii x18,.bad,.agg [.ii x18,.str a2,.str a3,.ii f1,.bad],.bad,.own 7003,u5,.bad],bl:=[(2,⟨.var,1,[[.zc]]⟩),(3,⟨.var,1,[[.bad]]⟩),(10,⟨.var,9,[[.ii e5,.ii c0,.ii b7,.ii d0,.ii c9,.ii b6,.str a2,.str a3,.str b9]]⟩),(16,⟨.arr,1,R⟩),(7003,⟨.arr,5,r29⟩)]}:St):=by
    intro dn
    induction dn with
    | zero=>
     intro s0 u5 y9 dhn
     exact absurd (show false=true from cntF_zero _ dhn 28 (by show 28 < 29;decide)) (by decide)
    | succ dn ih=>
     intro s0 u5 y9 dhn
     subst dhR
     refine dwp_next (is:=[0,1,2,3,4,5,6,7,8,9,10,11,12,13,14,15,16,17,18,19,20,21,22,23,24,25,26,27,28]) rfl ?_
     refine an ?_
     refine an ?_
     refine an ?_
     refine an ?_
     refine an ?_
     refine an ?_
     refine an ?_
     refine an ?_
     refine an ?_
     refine an ?_
     refine an ?_
     refine an ?_
     refine an ?_
     refine an ?_
     refine an ?_
     refine an ?_
     refine an ?_
     refine an ?_
     refine an ?_
     refine an ?_
     refine an ?_
     refine an ?_
     refine an ?_
     refine an ?_
     refine an ?_
     refine an ?_
     refine an ?_
     refine aq (fun h0 h1=> ?_) ?_
     ·
      cases (show s0=false from h0)
      refine rn hA 1 ?_
      refine ow_ ?_
      exact ih rf (cd h0 dhn)
     refine aq (fun h0 h1=> ?_) ?_
     ·
      obtain rfl:s0=true:=h1.1
      cases y9 rfl
      refine rn hA 1 ?_
      refine ow_ ?_
      exact t2 dn (cd h0 dhn)
     exact trivial
   have x4:∀(dn:Nat) {dB0 dB1:Bool} {dQ0 dQ1:PV},(dB0=true→dQ0=.pt 3 0 0)→(dB1=true→dQ1=.own 7003)→(dB1=true→dB0=true)→cntF [dB0,dB1,true,true,true,true,true,true,true,true,true,true,true,true,true,true,true,true,true,true,true,true,true,true,true,true,false,false,false]=dn→dwp T ⟨Real Tryz.prog,RealM Tryz.prog,RealC Tryz.prog⟩ dR dK dn [dB0,dB1,true,true,true,true,true,true,true,true,true,true,true,true,true,true,true,true,true,true,true,true,true,true,true,true,false,false,false] ({sl:=[.sl 9 b3,.bad,.pt 2 0 0,.pt 3 0 0,.own 16,.bad,.bad,.bad,.bad,.ii n2,.pt 10 0 0,.bad,.bad,.bad,.bad,.bad,.bad,.bad,.bad,.bad,.bad,.bad,.bad,.bad,.bad,.bad,.bad,.bad,.bad,.bad,.bad,.bad,.bad,.bad,.bad,.bad,.bad,.bad,.bad,.bad,.bad,.bad,.bad,.bad,.bad,.bad,.ii n2,.own 16,.ii (A.rlen R),.bool (A.cmp .lss n2 (A.rlen R)),.bad,.bad,.sl 9 b3,.own 16,.ii n2,.pt 16 (Int.toNat n2) 0,.ii x18,.agg [.ii e5,.ii c0,.ii b7,.ii d0,.ii c9,.ii b6,.str a2,.str a3,.str b9],dQ0,dQ1,.own 16,.ii n2,.pt 16 (Int.toNat n2) 0,.ii x18,.pt 10 0 1,.pt 10 0 6,.str a2,.pt 10 0 1,.pt 10 0 7,.str a3,.sl 9 b3,.own 16,.ii n2,.pt 16 (Int.toNat n2) 0,.ii x18,.ii f1,.sl 9 b3,.own 16,.ii n2,.pt 16 (Int.toNat n2) 0,.ii x18,.own 81,.agg [.ii x18,.str a2,.str a3,.ii f1,.own 81],.own 83,.bad,.bad,.bad],bl:=[(2,⟨.var,1,[[.zc]]⟩),(3,⟨.var,1,[[.own 7003]]⟩),(10,⟨.var,9,[[.ii e5,.ii c0,.ii b7,.ii d0,.ii c9,.ii b6,.str a2,.str a3,.str b9]]⟩),(16,⟨.arr,1,R⟩),(81,⟨.arr,3,o0⟩),(83,⟨.lit,5,[[.ii x18,.str a2,.str a3,.ii f1,.own 81]]⟩),(7003,⟨.arr,5,R2⟩)]}:St):=by
    intro dn
    induction dn with
    | zero=>
     intro dB0 dB1 dQ0 dQ1 dh0 dh1 d2 dhn
     exact absurd (show false=true from cntF_zero _ dhn 26 (by show 26 < 29;decide)) (by decide)
    | succ dn ih=>
     intro dB0 dB1 dQ0 dQ1 dh0 dh1 d2 dhn
     subst dhR
     refine dwp_next (is:=[0,1,2,3,4,5,6,7,8,9,10,11,12,13,14,15,16,17,18,19,20,21,22,23,24,25,26,27,28]) rfl ?_
     refine aq (fun h0 h1=> ?_) ?_
     ·
      cases (show dB0=false from h0)
      refine rn hA 1 ?_
      refine ow_ ?_
      exact ih rf dh1 rf (cd h0 dhn)
     refine aq (fun h0 h1=> ?_) ?_
     ·
      cases (show dB1=false from h0)
      obtain rfl:dB0=true:=h1.1
      cases dh0 rfl
      refine rn hA 1 ?_
      refine ow_ ?_
      exact ih rf rf rf (cd h0 dhn)
     refine an ?_
     refine an ?_
     refine an ?_
     refine an ?_
     refine an ?_
     refine an ?_
     refine an ?_
     refine an ?_
     refine an ?_
     refine an ?_
     refine an ?_
     refine an ?_
     refine an ?_
     refine an ?_
     refine an ?_
     refine an ?_
     refine an ?_
     refine an ?_
     refine an ?_
     refine an ?_
     refine an ?_
     refine an ?_
     refine an ?_
     refine an ?_
     refine aq (fun h0 h1=> ?_) ?_
     ·
      obtain rfl:dB1=true:=h1.1
      cases dh1 rfl;cases d2 rfl;cases dh0 rfl
      refine ops_step rfl rfl (app_own rfl rfl rfl rfl rfl rfl rfl rfl y6 (by cbv) (by cbv) (by cbv) rfl (by
       show(List.length R2+List.length ([[.ii x18,.str a2,.str a3,.ii f1,.ow 3 o0]])) * _≤_
       have h1:=insF_lt (boxQ xs) GRec.Valid xs i
       show(List.length R2+1) * 72≤_
       rw[hR2,List.length_map,List.length_map,List.length_take];omega) (by decide) (by decide)) ?_
      refine ow_ ?_
      exact v3 dn nf (cd h0 dhn)
     refine allRdy_q rfl rfl (fun _ h1=>absurd (show false=true from h1.2.2.2.2.2.2.2.2.2.2.2.2.2.2.2.2.2.2.2.2.2.2.2.2.2.2.1) (by decide)) ?_
     refine allRdy_q rfl rfl (fun _ h1=>absurd (show false=true from h1.1) (by decide)) ?_
     exact trivial
   have B8:∀(dn:Nat) {dB0 dB1 dB2 dB3 dB4 dB5 dB6 dB7 dB8 dB9 e4 j1 o4:Bool} {dQ0 dQ1 dQ2 dQ3 dQ4 dQ5 dQ6 dQ7 dQ8 dQ9 i5 p5 u6:PV},(dB0=true→dQ0=.pt 3 0 0)→(dB1=true→dQ1=.own 7003)→(dB2=true→dQ2=.own 16)→(dB3=true→dQ3=.ii n2)→(dB4=true→dQ4=.pt 16 (Int.toNat n2) 0)→(dB5=true→dQ5=.ii x18)→(dB6=true→dQ6=.pt 10 0 1)→(dB7=true→dQ7=.pt 10 0 6)→(dB8=true→dQ8=.str a2)→(dB9=true→dQ9=.pt 10 0 1)→(e4=true→i5=.pt 10 0 7)→(j1=true→p5=.str a3)→(o4=true→u6=.agg [.ii x18,.str a2,.str a3,.ii f1,.own 81])→(dB1=true→dB0=true)→(dB4=true→dB2=true)→(dB4=true→dB3=true)→(dB5=true→dB4=true)→(dB7=true→dB6=true)→(dB8=true→dB7=true)→(e4=true→dB9=true)→(j1=true→e4=true)→(o4=true→dB5=true)→(o4=true→dB8=true)→(o4=true→j1=true)→cntF [dB0,dB1,dB2,dB3,dB4,dB5,dB6,dB7,dB8,dB9,e4,j1,true,true,true,true,true,true,true,true,true,true,true,true,o4,false,false,false,false]=dn→dwp T ⟨Real Tryz.prog,RealM Tryz.prog,RealC Tryz.prog⟩ dR dK dn [dB0,dB1,dB2,dB3,dB4,dB5,dB6,dB7,dB8,dB9,e4,j1,true,true,true,true,true,true,true,true,true,true,true,true,o4,false,false,false,false] ({sl:=[.sl 9 b3,.bad,.pt 2 0 0,.pt 3 0 0,.own 16,.bad,.bad,.bad,.bad,.ii n2,.pt 10 0 0,.bad,.bad,.bad,.bad,.bad,.bad,.bad,.bad,.bad,.bad,.bad,.bad,.bad,.bad,.bad,.bad,.bad,.bad,.bad,.bad,.bad,.bad,.bad,.bad,.bad,.bad,.bad,.bad,.bad,.bad,.bad,.bad,.bad,.bad,.bad,.ii n2,.own 16,.ii (A.rlen R),.bool (A.cmp .lss n2 (A.rlen R)),.bad,.bad,.sl 9 b3,.own 16,.ii n2,.pt 16 (Int.toNat n2) 0,.ii x18,.agg [.ii e5,.ii c0,.ii b7,.ii d0,.ii c9,.ii b6,.str a2,.str a3,.str b9],dQ0,dQ1,dQ2,dQ3,dQ4,dQ5,dQ6,dQ7,dQ8,dQ9,i5,p5,.sl 9 b3,.own 16,.ii n2,.pt 16 (Int.toNat n2) 0,.ii x18,.ii f1,.sl 9 b3,.own 16,.ii n2,.pt 16 (Int.toNat n2) 0,.ii x18,.own 81,u6,.bad,.bad,.bad,.bad],bl:=[(2,⟨.var,1,[[.zc]]⟩),(3,⟨.var,1,[[.own 7003]]⟩),(10,⟨.var,9,[[.ii e5,.ii c0,.ii b7,.ii d0,.ii c9,.ii b6,.str a2,.str a3,.str b9]]⟩),(16,⟨.arr,1,R⟩),(81,⟨.arr,3,o0⟩),(7003,⟨.arr,5,R2⟩)]}:St):=by
    intro dn
    induction dn with
    | zero=>
     intro dB0 dB1 dB2 dB3 dB4 dB5 dB6 dB7 dB8 dB9 e4 j1 o4 dQ0 dQ1 dQ2 dQ3 dQ4 dQ5 dQ6 dQ7 dQ8 dQ9 i5 p5 u6 dh0 dh1 dh2 dh3 dh4 dh5 dh6 dh7 dh8 dh9 b5 e7 m0 d2 d4 d3 b1 d5 b2 a4 b4 i4 i3 i0 dhn
     exact absurd (show false=true from cntF_zero _ dhn 25 (by show 25 < 29;decide)) (by decide)
    | succ dn ih=>
     intro dB0 dB1 dB2 dB3 dB4 dB5 dB6 dB7 dB8 dB9 e4 j1 o4 dQ0 dQ1 dQ2 dQ3 dQ4 dQ5 dQ6 dQ7 dQ8 dQ9 i5 p5 u6 dh0 dh1 dh2 dh3 dh4 dh5 dh6 dh7 dh8 dh9 b5 e7 m0 d2 d4 d3 b1 d5 b2 a4 b4 i4 i3 i0 dhn
     subst dhR
     refine dwp_next (is:=[0,1,2,3,4,5,6,7,8,9,10,11,12,13,14,15,16,17,18,19,20,21,22,23,24,25,26,27,28]) rfl ?_
     refine aq (fun h0 h1=> ?_) ?_
     ·
      cases (show dB0=false from h0)
      refine rn hA 1 ?_
      refine ow_ ?_
      exact ih rf dh1 dh2 dh3 dh4 dh5 dh6 dh7 dh8 dh9 b5 e7 m0 rf d4 d3 b1 d5 b2 a4 b4 i4 i3 i0 (cd h0 dhn)
     refine aq (fun h0 h1=> ?_) ?_
     ·
      cases (show dB1=false from h0)
      obtain rfl:dB0=true:=h1.1
      cases dh0 rfl
      refine rn hA 1 ?_
      refine ow_ ?_
      exact ih rf rf dh2 dh3 dh4 dh5 dh6 dh7 dh8 dh9 b5 e7 m0 rf d4 d3 b1 d5 b2 a4 b4 i4 i3 i0 (cd h0 dhn)
     refine aq (fun h0 h1=> ?_) ?_
     ·
      cases (show dB2=false from h0)
      refine rn hA 1 ?_
      refine ow_ ?_
      exact ih dh0 dh1 rf dh3 dh4 dh5 dh6 dh7 dh8 dh9 b5 e7 m0 d2 rf d3 b1 d5 b2 a4 b4 i4 i3 i0 (cd h0 dhn)
     refine aq (fun h0 h1=> ?_) ?_
     ·
      cases (show dB3=false from h0)
      refine rn hA 1 ?_
      refine ow_ ?_
      exact ih dh0 dh1 dh2 rf dh4 dh5 dh6 dh7 dh8 dh9 b5 e7 m0 d2 d4 rf b1 d5 b2 a4 b4 i4 i3 i0 (cd h0 dhn)
     refine aq (fun h0 h1=> ?_) ?_
     ·
      cases (show dB4=false from h0)
      obtain rfl:dB2=true:=h1.1
      cases dh2 rfl
      obtain rfl:dB3=true:=h1.2.1
      cases dh3 rfl
      refine ops_step rfl rfl (idx_own rfl rfl rfl rfl rfl rfl s5 v8 rfl) ?_
      refine ow_ ?_
      exact ih dh0 dh1 rf rf rf dh5 dh6 dh7 dh8 dh9 b5 e7 m0 d2 rf rf rf d5 b2 a4 b4 i4 i3 i0 (cd h0 dhn)
     refine aq (fun h0 h1=> ?_) ?_
     ·
      cases (show dB5=false from h0)
      obtain rfl:dB4=true:=h1.1
      cases dh4 rfl;cases d4 rfl;cases dh2 rfl;cases d3 rfl;cases dh3 rfl
      refine ops_step rfl rfl (ld_arr rfl rfl rfl rfl s6 rfl) ?_
      refine ow_ ?_
      exact ih dh0 dh1 rf rf rf rf dh6 dh7 dh8 dh9 b5 e7 m0 d2 rf rf rf d5 b2 a4 b4 rf i3 i0 (cd h0 dhn)
     refine aq (fun h0 h1=> ?_) ?_
     ·
      cases (show dB6=false from h0)
      refine rn hA 1 ?_
      refine ow_ ?_
      exact ih dh0 dh1 dh2 dh3 dh4 dh5 rf dh7 dh8 dh9 b5 e7 m0 d2 d4 d3 b1 rf b2 a4 b4 i4 i3 i0 (cd h0 dhn)
     refine aq (fun h0 h1=> ?_) ?_
     ·
      cases (show dB7=false from h0)
      obtain rfl:dB6=true:=h1.1
      cases dh6 rfl
      refine rn hA 1 ?_
      refine ow_ ?_
      exact ih dh0 dh1 dh2 dh3 dh4 dh5 rf rf dh8 dh9 b5 e7 m0 d2 d4 d3 b1 rf rf a4 b4 i4 i3 i0 (cd h0 dhn)
     refine aq (fun h0 h1=> ?_) ?_
     ·
      cases (show dB8=false from h0)
      obtain rfl:dB7=true:=h1.1
      cases dh7 rfl;cases d5 rfl;cases dh6 rfl
      refine rn hA 1 ?_
      refine ow_ ?_
      exact ih dh0 dh1 dh2 dh3 dh4 dh5 rf rf rf dh9 b5 e7 m0 d2 d4 d3 b1 rf rf a4 b4 i4 rf i0 (cd h0 dhn)
     refine aq (fun h0 h1=> ?_) ?_
     ·
      cases (show dB9=false from h0)
      refine rn hA 1 ?_
      refine ow_ ?_
      exact ih dh0 dh1 dh2 dh3 dh4 dh5 dh6 dh7 dh8 rf b5 e7 m0 d2 d4 d3 b1 d5 b2 rf b4 i4 i3 i0 (cd h0 dhn)
     refine aq (fun h0 h1=> ?_) ?_
     ·
      cases (show e4=false from h0)
      obtain rfl:dB9=true:=h1.1
      cases dh9 rfl
      refine rn hA 1 ?_
      refine ow_ ?_
      exact ih dh0 dh1 dh2 dh3 dh4 dh5 dh6 dh7 dh8 rf rf e7 m0 d2 d4 d3 b1 d5 b2 rf rf i4 i3 i0 (cd h0 dhn)
     refine aq (fun h0 h1=> ?_) ?_
     ·
      cases (show j1=false from h0)
      obtain rfl:e4=true:=h1.1
      cases b5 rfl;cases a4 rfl;cases dh9 rfl
      refine rn hA 1 ?_
      refine ow_ ?_
      exact ih dh0 dh1 dh2 dh3 dh4 dh5 dh6 dh7 dh8 rf rf rf m0 d2 d4 d3 b1 d5 b2 rf rf i4 i3 rf (cd h0 dhn)
     refine an ?_
     refine an ?_
     refine an ?_
     refine an ?_
     refine an ?_
     refine an ?_
     refine an ?_
     refine an ?_
     refine an ?_
     refine an ?_
     refine an ?_
     refine an ?_
     refine aq (fun h0 h1=> ?_) ?_
     ·
      cases (show o4=false from h0)
      obtain rfl:dB5=true:=h1.1
      cases dh5 rfl;cases b1 rfl;cases dh4 rfl;cases d4 rfl;cases dh2 rfl;cases d3 rfl;cases dh3 rfl
      obtain rfl:dB8=true:=h1.2.1
      cases dh8 rfl;cases b2 rfl;cases dh7 rfl;cases d5 rfl;cases dh6 rfl
      obtain rfl:j1=true:=h1.2.2.1
      cases e7 rfl;cases b4 rfl;cases b5 rfl;cases a4 rfl;cases dh9 rfl
      refine rn hA 1 ?_
      refine ow_ ?_
      exact ih dh0 dh1 rf rf rf rf rf rf rf rf rf rf rf d2 rf rf rf rf rf rf rf rf rf rf (cd h0 dhn)
     refine aq (fun h0 h1=> ?_) ?_
     ·
      obtain rfl:o4=true:=h1.1
      cases m0 rfl;cases i4 rfl;cases dh5 rfl;cases b1 rfl;cases dh4 rfl;cases d4 rfl;cases dh2 rfl;cases d3 rfl;cases dh3 rfl;cases i3 rfl;cases dh8 rfl;cases b2 rfl;cases dh7 rfl;cases d5 rfl;cases dh6 rfl;cases i0 rfl;cases e7 rfl;cases b4 rfl;cases b5 rfl;cases a4 rfl;cases dh9 rfl
      refine rn hA 1 ?_
      refine ops_done (dwp_to [.up 7003,.up 83,.up 81,.up 16,.up 10,.up 3,.up 2] (by cbv) rfl ?_)
      exact x4 dn dh0 dh1 d2 (cd h0 dhn)
     refine allRdy_q rfl rfl (fun _ h1=>absurd (show false=true from h1.2.1) (by decide)) ?_
     refine allRdy_q rfl rfl (fun _ h1=>absurd (show false=true from h1.2.2.2.2.2.2.2.2.2.2.2.2.2.2.2.2.2.2.2.2.2.2.2.2.2.1) (by decide)) ?_
     refine allRdy_q rfl rfl (fun _ h1=>absurd (show false=true from h1.1) (by decide)) ?_
     exact trivial
   have H_:∀(dn:Nat) {dB0 dB1 dB2 dB3 dB4 dB5 dB6 dB7 dB8 dB9 e4 j1 q4 q6 q8 o6 p7 p6 r5 q5 q3 o5 q2:Bool} {dQ0 dQ1 dQ2 dQ3 dQ4 dQ5 dQ6 dQ7 dQ8 dQ9 i5 p5 v1 v2 u4 u9 v0 u2 u0 u8 u1 u3 u7:PV},(dB0=true→dQ0=.pt 3 0 0)→(dB1=true→dQ1=.own 7003)→(dB2=true→dQ2=.own 16)→(dB3=true→dQ3=.ii n2)→(dB4=true→dQ4=.pt 16 (Int.toNat n2) 0)→(dB5=true→dQ5=.ii x18)→(dB6=true→dQ6=.pt 10 0 1)→(dB7=true→dQ7=.pt 10 0 6)→(dB8=true→dQ8=.str a2)→(dB9=true→dQ9=.pt 10 0 1)→(e4=true→i5=.pt 10 0 7)→(j1=true→p5=.str a3)→(q4=true→v1=.sl 9 b3)→(q6=true→v2=.own 16)→(q8=true→u4=.ii n2)→(o6=true→u9=.pt 16 (Int.toNat n2) 0)→(p7=true→v0=.ii x18)→(p6=true→u2=.ii f1)→(r5=true→u0=.sl 9 b3)→(q5=true→u8=.own 16)→(q3=true→u1=.ii n2)→(o5=true→u3=.pt 16 (Int.toNat n2) 0)→(q2=true→u7=.ii x18)→(dB1=true→dB0=true)→(dB4=true→dB2=true)→(dB4=true→dB3=true)→(dB5=true→dB4=true)→(dB7=true→dB6=true)→(dB8=true→dB7=true)→(e4=true→dB9=true)→(j1=true→e4=true)→(o6=true→q6=true)→(o6=true→q8=true)→(p7=true→o6=true)→(p6=true→q4=true)→(p6=true→p7=true)→(o5=true→q5=true)→(o5=true→q3=true)→(q2=true→o5=true)→cntF [dB0,dB1,dB2,dB3,dB4,dB5,dB6,dB7,dB8,dB9,e4,j1,q4,q6,q8,o6,p7,p6,r5,q5,q3,o5,q2,false,false,false,false,false,false]=dn→dwp T ⟨Real Tryz.prog,RealM Tryz.prog,RealC Tryz.prog⟩ dR dK dn [dB0,dB1,dB2,dB3,dB4,dB5,dB6,dB7,dB8,dB9,e4,j1,q4,q6,q8,o6,p7,p6,r5,q5,q3,o5,q2,false,false,false,false,false,false] ({sl:=[.sl 9 b3,.bad,.pt 2 0 0,.pt 3 0 0,.own 16,.bad,.bad,.bad,.bad,.ii n2,.pt 10 0 0,.bad,.bad,.bad,.bad,.bad,.bad,.bad,.bad,.bad,.bad,.bad,.bad,.bad,.bad,.bad,.bad,.bad,.bad,.bad,.bad,.bad,.bad,.bad,.bad,.bad,.bad,.bad,.bad,.bad,.bad,.bad,.bad,.bad,.bad,.bad,.ii n2,.own 16,.ii (A.rlen R),.bool (A.cmp .lss n2 (A.rlen R)),.bad,.bad,.sl 9 b3,.own 16,.ii n2,.pt 16 (Int.toNat n2) 0,.ii x18,.agg [.ii e5,.ii c0,.ii b7,.ii d0,.ii c9,.ii b6,.str a2,.str a3,.str b9],dQ0,dQ1,dQ2,dQ3,dQ4,dQ5,dQ6,dQ7,dQ8,dQ9,i5,p5,v1,v2,u4,u9,v0,u2,u0,u8,u1,u3,u7,.bad,.bad,.bad,.bad,.bad,.bad],bl:=[(2,⟨.var,1,[[.zc]]⟩),(3,⟨.var,1,[[.own 7003]]⟩),(10,⟨.var,9,[[.ii e5,.ii c0,.ii b7,.ii d0,.ii c9,.ii b6,.str a2,.str a3,.str b9]]⟩),(16,⟨.arr,1,R⟩),(7003,⟨.arr,5,R2⟩)]}:St):=by
    intro dn
    induction dn with
    | zero=>
     intro dB0 dB1 dB2 dB3 dB4 dB5 dB6 dB7 dB8 dB9 e4 j1 q4 q6 q8 o6 p7 p6 r5 q5 q3 o5 q2 dQ0 dQ1 dQ2 dQ3 dQ4 dQ5 dQ6 dQ7 dQ8 dQ9 i5 p5 v1 v2 u4 u9 v0 u2 u0 u8 u1 u3 u7 dh0 dh1 dh2 dh3 dh4 dh5 dh6 dh7 dh8 dh9 b5 e7 g7 g2 f9 g6 g0 g4 g1 g3 g8 g5 f8 d2 d4 d3 b1 d5 b2 a4 b4 e0 d9 d7 e2 d8 d6 e1 e3 dhn
     exact absurd (show false=true from cntF_zero _ dhn 23 (by show 23 < 29;decide)) (by decide)
    | succ dn ih=>
     intro dB0 dB1 dB2 dB3 dB4 dB5 dB6 dB7 dB8 dB9 e4 j1 q4 q6 q8 o6 p7 p6 r5 q5 q3 o5 q2 dQ0 dQ1 dQ2 dQ3 dQ4 dQ5 dQ6 dQ7 dQ8 dQ9 i5 p5 v1 v2 u4 u9 v0 u2 u0 u8 u1 u3 u7 dh0 dh1 dh2 dh3 dh4 dh5 dh6 dh7 dh8 dh9 b5 e7 g7 g2 f9 g6 g0 g4 g1 g3 g8 g5 f8 d2 d4 d3 b1 d5 b2 a4 b4 e0 d9 d7 e2 d8 d6 e1 e3 dhn
     subst dhR
     refine dwp_next (is:=[0,1,2,3,4,5,6,7,8,9,10,11,12,13,14,15,16,17,18,19,20,21,22,23,24,25,26,27,28]) rfl ?_
     refine aq (fun h0 h1=> ?_) ?_
     ·
      cases (show dB0=false from h0)
      refine rn hA 1 ?_
      refine ow_ ?_
      exact ih rf dh1 dh2 dh3 dh4 dh5 dh6 dh7 dh8 dh9 b5 e7 g7 g2 f9 g6 g0 g4 g1 g3 g8 g5 f8 rf d4 d3 b1 d5 b2 a4 b4 e0 d9 d7 e2 d8 d6 e1 e3 (cd h0 dhn)
     refine aq (fun h0 h1=> ?_) ?_
     ·
      cases (show dB1=false from h0)
      obtain rfl:dB0=true:=h1.1
      cases dh0 rfl
      refine rn hA 1 ?_
      refine ow_ ?_
      exact ih rf rf dh2 dh3 dh4 dh5 dh6 dh7 dh8 dh9 b5 e7 g7 g2 f9 g6 g0 g4 g1 g3 g8 g5 f8 rf d4 d3 b1 d5 b2 a4 b4 e0 d9 d7 e2 d8 d6 e1 e3 (cd h0 dhn)
     refine aq (fun h0 h1=> ?_) ?_
     ·
      cases (show dB2=false from h0)
      refine rn hA 1 ?_
      refine ow_ ?_
      exact ih dh0 dh1 rf dh3 dh4 dh5 dh6 dh7 dh8 dh9 b5 e7 g7 g2 f9 g6 g0 g4 g1 g3 g8 g5 f8 d2 rf d3 b1 d5 b2 a4 b4 e0 d9 d7 e2 d8 d6 e1 e3 (cd h0 dhn)
     refine aq (fun h0 h1=> ?_) ?_
     ·
      cases (show dB3=false from h0)
      refine rn hA 1 ?_
      refine ow_ ?_
      exact ih dh0 dh1 dh2 rf dh4 dh5 dh6 dh7 dh8 dh9 b5 e7 g7 g2 f9 g6 g0 g4 g1 g3 g8 g5 f8 d2 d4 rf b1 d5 b2 a4 b4 e0 d9 d7 e2 d8 d6 e1 e3 (cd h0 dhn)
     refine aq (fun h0 h1=> ?_) ?_
     ·
      cases (show dB4=false from h0)
      obtain rfl:dB2=true:=h1.1
      cases dh2 rfl
      obtain rfl:dB3=true:=h1.2.1
      cases dh3 rfl
      refine ops_step rfl rfl (idx_own rfl rfl rfl rfl rfl rfl s5 v8 rfl) ?_
      refine ow_ ?_
      exact ih dh0 dh1 rf rf rf dh5 dh6 dh7 dh8 dh9 b5 e7 g7 g2 f9 g6 g0 g4 g1 g3 g8 g5 f8 d2 rf rf rf d5 b2 a4 b4 e0 d9 d7 e2 d8 d6 e1 e3 (cd h0 dhn)
     refine aq (fun h0 h1=> ?_) ?_
     ·
      cases (show dB5=false from h0)
      obtain rfl:dB4=true:=h1.1
      cases dh4 rfl;cases d4 rfl;cases dh2 rfl;cases d3 rfl;cases dh3 rfl
      refine ops_step rfl rfl (ld_arr rfl rfl rfl rfl s6 rfl) ?_
      refine ow_ ?_
      exact ih dh0 dh1 rf rf rf rf dh6 dh7 dh8 dh9 b5 e7 g7 g2 f9 g6 g0 g4 g1 g3 g8 g5 f8 d2 rf rf rf d5 b2 a4 b4 e0 d9 d7 e2 d8 d6 e1 e3 (cd h0 dhn)
     refine aq (fun h0 h1=> ?_) ?_
     ·
      cases (show dB6=false from h0)
      refine rn hA 1 ?_
      refine ow_ ?_
      exact ih dh0 dh1 dh2 dh3 dh4 dh5 rf dh7 dh8 dh9 b5 e7 g7 g2 f9 g6 g0 g4 g1 g3 g8 g5 f8 d2 d4 d3 b1 rf b2 a4 b4 e0 d9 d7 e2 d8 d6 e1 e3 (cd h0 dhn)
     refine aq (fun h0 h1=> ?_) ?_
     ·
      cases (show dB7=false from h0)
      obtain rfl:dB6=true:=h1.1
      cases dh6 rfl
      refine rn hA 1 ?_
      refine ow_ ?_
      exact ih dh0 dh1 dh2 dh3 dh4 dh5 rf rf dh8 dh9 b5 e7 g7 g2 f9 g6 g0 g4 g1 g3 g8 g5 f8 d2 d4 d3 b1 rf rf a4 b4 e0 d9 d7 e2 d8 d6 e1 e3 (cd h0 dhn)
     refine aq (fun h0 h1=> ?_) ?_
     ·
      cases (show dB8=false from h0)
      obtain rfl:dB7=true:=h1.1
      cases dh7 rfl;cases d5 rfl;cases dh6 rfl
      refine rn hA 1 ?_
      refine ow_ ?_
      exact ih dh0 dh1 dh2 dh3 dh4 dh5 rf rf rf dh9 b5 e7 g7 g2 f9 g6 g0 g4 g1 g3 g8 g5 f8 d2 d4 d3 b1 rf rf a4 b4 e0 d9 d7 e2 d8 d6 e1 e3 (cd h0 dhn)
     refine aq (fun h0 h1=> ?_) ?_
     ·
      cases (show dB9=false from h0)
      refine rn hA 1 ?_
      refine ow_ ?_
      exact ih dh0 dh1 dh2 dh3 dh4 dh5 dh6 dh7 dh8 rf b5 e7 g7 g2 f9 g6 g0 g4 g1 g3 g8 g5 f8 d2 d4 d3 b1 d5 b2 rf b4 e0 d9 d7 e2 d8 d6 e1 e3 (cd h0 dhn)
     refine aq (fun h0 h1=> ?_) ?_
     ·
      cases (show e4=false from h0)
      obtain rfl:dB9=true:=h1.1
      cases dh9 rfl
      refine rn hA 1 ?_
      refine ow_ ?_
      exact ih dh0 dh1 dh2 dh3 dh4 dh5 dh6 dh7 dh8 rf rf e7 g7 g2 f9 g6 g0 g4 g1 g3 g8 g5 f8 d2 d4 d3 b1 d5 b2 rf rf e0 d9 d7 e2 d8 d6 e1 e3 (cd h0 dhn)
     refine aq (fun h0 h1=> ?_) ?_
     ·
      cases (show j1=false from h0)
      obtain rfl:e4=true:=h1.1
      cases b5 rfl;cases a4 rfl;cases dh9 rfl
      refine rn hA 1 ?_
      refine ow_ ?_
      exact ih dh0 dh1 dh2 dh3 dh4 dh5 dh6 dh7 dh8 rf rf rf g7 g2 f9 g6 g0 g4 g1 g3 g8 g5 f8 d2 d4 d3 b1 d5 b2 rf rf e0 d9 d7 e2 d8 d6 e1 e3 (cd h0 dhn)
     refine aq (fun h0 h1=> ?_) ?_
     ·
      cases (show q4=false from h0)
      refine rn hA 1 ?_
      refine ow_ ?_
      exact ih dh0 dh1 dh2 dh3 dh4 dh5 dh6 dh7 dh8 dh9 b5 e7 rf g2 f9 g6 g0 g4 g1 g3 g8 g5 f8 d2 d4 d3 b1 d5 b2 a4 b4 e0 d9 d7 rf d8 d6 e1 e3 (cd h0 dhn)
     refine aq (fun h0 h1=> ?_) ?_
     ·
      cases (show q6=false from h0)
      refine rn hA 1 ?_
      refine ow_ ?_
      exact ih dh0 dh1 dh2 dh3 dh4 dh5 dh6 dh7 dh8 dh9 b5 e7 g7 rf f9 g6 g0 g4 g1 g3 g8 g5 f8 d2 d4 d3 b1 d5 b2 a4 b4 rf d9 d7 e2 d8 d6 e1 e3 (cd h0 dhn)
     refine aq (fun h0 h1=> ?_) ?_
     ·
      cases (show q8=false from h0)
      refine rn hA 1 ?_
      refine ow_ ?_
      exact ih dh0 dh1 dh2 dh3 dh4 dh5 dh6 dh7 dh8 dh9 b5 e7 g7 g2 rf g6 g0 g4 g1 g3 g8 g5 f8 d2 d4 d3 b1 d5 b2 a4 b4 e0 rf d7 e2 d8 d6 e1 e3 (cd h0 dhn)
     refine aq (fun h0 h1=> ?_) ?_
     ·
      cases (show o6=false from h0)
      obtain rfl:q6=true:=h1.1
      cases g2 rfl
      obtain rfl:q8=true:=h1.2.1
      cases f9 rfl
      refine ops_step rfl rfl (idx_own rfl rfl rfl rfl rfl rfl s5 y3 rfl) ?_
      refine ow_ ?_
      exact ih dh0 dh1 dh2 dh3 dh4 dh5 dh6 dh7 dh8 dh9 b5 e7 g7 rf rf rf g0 g4 g1 g3 g8 g5 f8 d2 d4 d3 b1 d5 b2 a4 b4 rf rf rf e2 d8 d6 e1 e3 (cd h0 dhn)
     refine aq (fun h0 h1=> ?_) ?_
     ·
      cases (show p7=false from h0)
      obtain rfl:o6=true:=h1.1
      cases g6 rfl;cases e0 rfl;cases g2 rfl;cases d9 rfl;cases f9 rfl
      refine ops_step rfl rfl (ld_arr rfl rfl rfl rfl s6 rfl) ?_
      refine ow_ ?_
      exact ih dh0 dh1 dh2 dh3 dh4 dh5 dh6 dh7 dh8 dh9 b5 e7 g7 rf rf rf rf g4 g1 g3 g8 g5 f8 d2 d4 d3 b1 d5 b2 a4 b4 rf rf rf e2 rf d6 e1 e3 (cd h0 dhn)
     refine aq (fun h0 h1=> ?_) ?_
     ·
      cases (show p6=false from h0)
      obtain rfl:q4=true:=h1.1
      cases g7 rfl
      obtain rfl:p7=true:=h1.2.1
      cases g0 rfl;cases d7 rfl;cases g6 rfl;cases e0 rfl;cases g2 rfl;cases d9 rfl;cases f9 rfl
      refine cvw B7 (.inr rfl) ?_
      refine ow_ ?_
      exact ih dh0 dh1 dh2 dh3 dh4 dh5 dh6 dh7 dh8 dh9 b5 e7 rf rf rf rf rf rf g1 g3 g8 g5 f8 d2 d4 d3 b1 d5 b2 a4 b4 rf rf rf rf rf d6 e1 e3 (cd h0 dhn)
     refine aq (fun h0 h1=> ?_) ?_
     ·
      cases (show r5=false from h0)
      refine rn hA 1 ?_
      refine ow_ ?_
      exact ih dh0 dh1 dh2 dh3 dh4 dh5 dh6 dh7 dh8 dh9 b5 e7 g7 g2 f9 g6 g0 g4 rf g3 g8 g5 f8 d2 d4 d3 b1 d5 b2 a4 b4 e0 d9 d7 e2 d8 d6 e1 e3 (cd h0 dhn)
     refine aq (fun h0 h1=> ?_) ?_
     ·
      cases (show q5=false from h0)
      refine rn hA 1 ?_
      refine ow_ ?_
      exact ih dh0 dh1 dh2 dh3 dh4 dh5 dh6 dh7 dh8 dh9 b5 e7 g7 g2 f9 g6 g0 g4 g1 rf g8 g5 f8 d2 d4 d3 b1 d5 b2 a4 b4 e0 d9 d7 e2 d8 rf e1 e3 (cd h0 dhn)
     refine aq (fun h0 h1=> ?_) ?_
     ·
      cases (show q3=false from h0)
      refine rn hA 1 ?_
      refine ow_ ?_
      exact ih dh0 dh1 dh2 dh3 dh4 dh5 dh6 dh7 dh8 dh9 b5 e7 g7 g2 f9 g6 g0 g4 g1 g3 rf g5 f8 d2 d4 d3 b1 d5 b2 a4 b4 e0 d9 d7 e2 d8 d6 rf e3 (cd h0 dhn)
     refine aq (fun h0 h1=> ?_) ?_
     ·
      cases (show o5=false from h0)
      obtain rfl:q5=true:=h1.1
      cases g3 rfl
      obtain rfl:q3=true:=h1.2.1
      cases g8 rfl
      refine ops_step rfl rfl (idx_own rfl rfl rfl rfl rfl rfl s5 y8 rfl) ?_
      refine ow_ ?_
      exact ih dh0 dh1 dh2 dh3 dh4 dh5 dh6 dh7 dh8 dh9 b5 e7 g7 g2 f9 g6 g0 g4 g1 rf rf rf f8 d2 d4 d3 b1 d5 b2 a4 b4 e0 d9 d7 e2 d8 rf rf rf (cd h0 dhn)
     refine aq (fun h0 h1=> ?_) ?_
     ·
      cases (show q2=false from h0)
      obtain rfl:o5=true:=h1.1
      cases g5 rfl;cases d6 rfl;cases g3 rfl;cases e1 rfl;cases g8 rfl
      refine ops_step rfl rfl (ld_arr rfl rfl rfl rfl s6 rfl) ?_
      refine ow_ ?_
      exact ih dh0 dh1 dh2 dh3 dh4 dh5 dh6 dh7 dh8 dh9 b5 e7 g7 g2 f9 g6 g0 g4 g1 rf rf rf rf d2 d4 d3 b1 d5 b2 a4 b4 e0 d9 d7 e2 d8 rf rf rf (cd h0 dhn)
     refine aq (fun h0 h1=> ?_) ?_
     ·
      obtain rfl:r5=true:=h1.1
      cases g1 rfl
      obtain rfl:q2=true:=h1.2.1
      cases f8 rfl;cases e3 rfl;cases g5 rfl;cases d6 rfl;cases g3 rfl;cases e1 rfl;cases g8 rfl
      obtain rfl:p6=true:=h1.2.2.1
      cases g4 rfl;cases e2 rfl;cases g7 rfl;cases d8 rfl;cases g0 rfl;cases d7 rfl;cases g6 rfl;cases e0 rfl;cases g2 rfl;cases d9 rfl;cases f9 rfl
      refine cvw z8 (.inr rfl) ?_
      refine ops_done (dwp_to [.up 7003,.up 81,.up 16,.up 10,.up 3,.up 2] (by cbv) rfl ?_)
      exact B8 dn dh0 dh1 dh2 dh3 dh4 dh5 dh6 dh7 dh8 dh9 b5 e7 nf d2 d4 d3 b1 d5 b2 a4 b4 nf nf nf (cd h0 dhn)
     refine allRdy_q rfl rfl (fun _ h1=>absurd (show false=true from h1.2.2.2.2.1) (by decide)) ?_
     refine allRdy_q rfl rfl (fun _ h1=>absurd (show false=true from h1.1) (by decide)) ?_
     refine allRdy_q rfl rfl (fun _ h1=>absurd (show false=true from h1.2.1) (by decide)) ?_
     refine allRdy_q rfl rfl (fun _ h1=>absurd (show false=true from h1.2.2.2.2.2.2.2.2.2.2.2.2.2.2.2.2.2.2.2.2.2.2.2.1) (by decide)) ?_
     refine allRdy_q rfl rfl (fun _ h1=>absurd (show false=true from h1.1) (by decide)) ?_
     exact trivial
   exact dwp_to [.up 7003,.up 16,.up 10,.up 3,.up 2] (by cbv) rfl (@H_ 29 false false false false false false false false false false false false false false false false false false false false false false false (.bad) (.bad) (.bad) (.bad) (.bad) (.bad) (.bad) (.bad) (.bad) (.bad) (.bad) (.bad) (.bad) (.bad) (.bad) (.bad) (.bad) (.bad) (.bad) (.bad) (.bad) (.bad) (.bad) nf nf nf nf nf nf nf nf nf nf nf nf nf nf nf nf nf nf nf nf nf nf nf nf nf nf nf nf nf nf nf nf nf nf nf nf nf nf nf rfl)
  refine gy hA 3 ?_
  refine⟨(S29_2 b3 (A.num .add .i64 n2 1) R r29),List.length (insF (boxQ xs) GRec.Valid (xs.take i)) - (k+1),?_,by cbv,k+1,(A.num .add .i64 n2 1),r29,rfl,?_,rfl⟩
  ·
   omega
  have hM:boxR xs x18=(⟨x18,a2,a3,f1,mailsR x18 xs⟩:GBox):=by
   unfold boxR
   simp only[t8,t9,r4,r0,s4,r3,q9,r2,r6,r8,x5,t0]
  refine⟨by rw[add_i64 hA (by omega) (by omega)];omega,by omega,?_⟩
  rw[map_tk t4,hM]
  exact x9
 have B6:(A.rlen R)≤n2:=lss_f hA c17
 refine go_exit ⟨fun _=> ?_,fun h=>absurd rfl h⟩
 refine gx hA 2 ?_
 refine rt (gt ?_)
 show _=(PV.agg [.ow 5 R2])
 have hS:stateR xs=⟨boxesR xs⟩:=by rw[stateR,if_pos hok]
 rw[List.take_of_length_le (by omega),List.take_of_length_le (by omega)] at hR2
 rw[← stateR_S,hS]
 simp only[hR2]
 rfl
end Go.Av

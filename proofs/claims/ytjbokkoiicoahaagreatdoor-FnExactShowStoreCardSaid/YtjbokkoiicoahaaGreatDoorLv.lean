/- How many bytes live: the program's way of reckoning and the reference's are one. -/
import Derived.Test.YtjbokkoiicoahaaGreatDoorN3
import Derived.Test.YtjbokkoiicoahaaGreatDoorFr
namespace Go.Av
open Go
set_option linter.unusedVariables false
set_option linter.unusedSimpArgs false
def noIs (i:Int)(s:GSeg):Bool:=decide (s.No=i)
def freeN (us:List GSeg):Nat→List Int
 | 0=>[]
 | i+1=>if us.any (noIs (i:Int))=true then freeN us i else freeN us i++[(i:Int)]
theorem freeN_len (us:List GSeg):∀ i,(freeN us i).length≤i
 | 0=>Nat.le_refl _
 | i+1=>by
  have:=freeN_len us i
  unfold freeN;split
  ·omega
  rw[List.length_append];simp only[List.length_cons,List.length_nil];omega
def freeL (n:Int)(us:List GSeg):List Int:=freeN us (Int.toNat (min n 11))
theorem any_take {α:Type}{p:α→Bool}{xs:List α}{i:Nat}{x:α}(h:xs[i]? =some x):(xs.take (i+1)).any p=((xs.take i).any p || p x):=by
 rw[List.take_add_one,h,List.any_append];simp
def frB (fr:List Int)(no:Int):Bool:=fr.any fun x=>decide (x=no)
def keptL (fr:List Int)(us:List GSeg):List GItem:=(us.filter fun s=> !(frB fr s.No)).flatMap GSeg.Items
theorem keptL_at {fr:List Int}{us:List GSeg}{i:Nat}{s:GSeg}(h:us[i]? =some s):keptL fr (us.take (i+1))=if frB fr s.No=true then keptL fr (us.take i) else keptL fr (us.take i)++s.Items:=by
 rw[List.take_add_one,h,keptL,List.filter_append,List.flatMap_append]
 by_cases hk:frB fr s.No=true<;>simp[List.filter_cons,hk,keptL]
theorem keptL_split (fr:List Int)(us:List GSeg)(i:Nat):keptL fr us=keptL fr (us.take i)++keptL fr (us.drop i):=by
 unfold keptL;rw[← List.flatMap_append,← List.filter_append,List.take_append_drop]
theorem keptL_le (fr:List Int)(us:List GSeg)(i:Nat):(keptL fr (us.take i)).length≤(keptL fr us).length:=by
 rw[keptL_split fr us i,List.length_append];omega
theorem keptL_items (fr:List Int):∀ us:List GSeg,(keptL fr us).length≤(itemsL us).length
 | []=>Nat.le_refl _
 | s::us=>by
  have h:=keptL_items fr us
  unfold keptL itemsL at *
  rw[List.filter_cons]
  split<;>simp only[List.flatMap_cons,List.length_append] at * <;>omega
theorem kept_mem {fr:List Int}{us:List GSeg}{x:GItem}(h:x∈keptL fr us):x∈itemsL us:=by
 obtain⟨s,hs,hx⟩:=List.mem_flatMap.1 h
 exact List.mem_flatMap.2 ⟨s,(List.mem_filter.1 hs).1,hx⟩
theorem zs_kept {fr:List Int}{us:List GSeg}(h:∀ q∈zsItemS (itemsL us),q≤1048576):∀ q∈zsItemS (keptL fr us),q≤1048576:=by
 intro q hq
 rcases List.mem_cons.1 hq with rfl | hq
 ·have h1:=keptL_items fr us
  have h2:=h _ (List.mem_cons_self ..)
  omega
 obtain⟨x,hx,hq⟩:=List.mem_flatMap.1 hq
 exact h q (List.mem_cons_of_mem _ (List.mem_flatMap.2 ⟨x,kept_mem hx,hq⟩))
def NL (fr:List Int)(us:List GSeg):List Bool:=needL (keptL fr us) (keptL fr us).length
theorem isz_I {A:Alg}(hA:A=std)(x:GItem)(g:Int):fsz (frI A (vtI A) x g)=isz x g:=by subst hA;rfl
theorem isz_R {A:Alg}(hA:A=std)(x:GItem)(g:Int):fsz (frI A (vtR A) x g)=isz x g:=by subst hA;exact fr_same (vtR_len _) (vtI_len _) x g
theorem isz_le (x:GItem)(g:Int):0≤isz x g∧isz x g≤199:=ft_le _
def ndB (need:List Bool)(k:Nat):Bool:=(need[k]?).getD false
def liveG (need:List Bool)(b:Nat)(g:Int)(items:List GItem):Nat→Int
 | 0=>0
 | k+1=>liveG need b g items k+(if ndB need (b+k)=true then isz ((items[k]?).getD zItem) g else 0)
theorem liveG_le (need:List Bool)(b:Nat)(g:Int)(items:List GItem):∀ k,0≤liveG need b g items k∧liveG need b g items k≤199 * (k:Int)
 | 0=>by simp[liveG]
 | k+1=>by
  have h:=liveG_le need b g items k
  have h2:=isz_le ((items[k]?).getD zItem) g
  unfold liveG;split<;>omega
def plc (need:List Bool)(b:Nat):Nat→List Int
 | 0=>[]
 | k+1=>if ndB need (b+k)=true then plc need b k++[(k:Int)] else plc need b k
theorem plc_len (need:List Bool)(b:Nat):∀ k,(plc need b k).length≤k
 | 0=>Nat.le_refl _
 | k+1=>by
  have:=plc_len need b k
  unfold plc;split
  ·rw [List.length_append];simp only[List.length_cons,List.length_nil];omega
  omega
theorem plc_mem {need:List Bool}{b:Nat}{p:Int}:∀{k:Nat},p∈plc need b k→0≤p∧p < (k:Int)
 | 0,h=>by cases h
 | k+1,h=>by
  unfold plc at h
  split at h
  ·rcases List.mem_append.1 h with h | h
   ·have:=plc_mem h;omega
   rw[List.mem_singleton.1 h];omega
  have:=plc_mem h;omega
def sumP (g:Int)(items:List GItem)(ps:List Int):Int:=ps.foldl (fun s p=>s+isz ((items[Int.toNat p]?).getD zItem) g) 0
theorem sumP_at {g:Int}{items:List GItem}{ps:List Int}{i:Nat}{p:Int}(h:ps[i]? =some p):sumP g items (ps.take (i+1))=sumP g items (ps.take i)+isz ((items[Int.toNat p]?).getD zItem) g:=by
 rw[List.take_add_one,h];simp[sumP,List.foldl_append]
theorem sumP_le (g:Int)(items:List GItem)(ps:List Int):0≤sumP g items ps∧sumP g items ps≤199 * (ps.length:Int):=by
 have main:∀(ps:List Int) (s:Int),s≤ps.foldl (fun s p=>s+isz ((items[Int.toNat p]?).getD zItem) g) s∧ps.foldl (fun s p=>s+isz ((items[Int.toNat p]?).getD zItem) g) s≤s+199 * (ps.length:Int):=by
  intro ps
  induction ps with
  | nil=>intro s;simp
  | cons p ps ih=>
   intro s
   have h:=ih (s+isz ((items[Int.toNat p]?).getD zItem) g)
   have h2:=isz_le ((items[Int.toNat p]?).getD zItem) g
   simp only[List.foldl_cons,List.length_cons]
   omega
 have:=main ps 0
 unfold sumP;omega
theorem sumP_plc (need:List Bool)(b:Nat)(g:Int)(items:List GItem):∀ k,sumP g items (plc need b k)=liveG need b g items k
 | 0=>rfl
 | k+1=>by
  have h:=sumP_plc need b g items k
  unfold plc liveG
  split
  ·rw [← h];simp[sumP,List.foldl_append]
  rw[h];omega
def segV (fr:List Int)(us:List GSeg)(i:Nat)(s:GSeg):Int:=if frB fr s.No=true then 0 else liveG (NL fr us) (keptL fr (us.take i)).length s.Gen s.Items s.Items.length
def segL (fr:List Int)(us:List GSeg)(i:Nat):Int:=match us[i]? with | some s=>segV fr us i s | none=>0
theorem segL_some {fr:List Int}{us:List GSeg}{i:Nat}{s:GSeg}(h:us[i]? =some s):segL fr us i=segV fr us i s:=by unfold segL;rw[h]
def totL (fr:List Int)(us:List GSeg):Nat→Int
 | 0=>0
 | i+1=>totL fr us i+segL fr us i
def sizL (fr:List Int)(us:List GSeg)(n:Nat):List Int:=(List.range n).map (segL fr us)
theorem sizL_at (fr:List Int)(us:List GSeg)(n:Nat):sizL fr us (n+1)=sizL fr us n++[segL fr us n]:=by
 unfold sizL;rw[List.range_succ,List.map_append];rfl
theorem sizL_len (fr:List Int)(us:List GSeg)(n:Nat):(sizL fr us n).length=n:=by unfold sizL;rw[List.length_map,List.length_range]
theorem sizL_get {fr:List Int}{us:List GSeg}{n i:Nat}{x:Int}(h:(sizL fr us n)[i]? =some x):x=segL fr us i:=by
 unfold sizL at h
 rw[List.getElem?_map] at h
 by_cases hi:i < n
 ·rw [List.getElem?_range hi] at h;simpa using h.symm
 rw[List.getElem?_eq_none (by rw[List.length_range];omega)] at h;cases h
theorem segL_le (fr:List Int)(us:List GSeg)(i:Nat):0≤segL fr us i∧segL fr us i≤199 * ((itemsL (us.take (i+1))).length:Int) - 199 * ((itemsL (us.take i)).length:Int):=by
 cases h:us[i]? with
 | none=>
  have h1:us.take (i+1)=us.take i:=by rw[List.take_add_one,h];simp
  have h2:segL fr us i=0:=by unfold segL;rw[h]
  rw[h2,h1];omega
 | some s=>
  rw[segL_some h,itemsL_at h,List.length_append]
  have:=liveG_le (NL fr us) (keptL fr (us.take i)).length s.Gen s.Items s.Items.length
  unfold segV;split<;>omega
theorem totL_le (fr:List Int)(us:List GSeg):∀ i,0≤totL fr us i∧totL fr us i≤199 * ((itemsL (us.take i)).length:Int)
 | 0=>by simp[totL,itemsL]
 | i+1=>by
  have h:=totL_le fr us i
  have h2:=segL_le fr us i
  unfold totL;omega
def plcA (fr:List Int)(us:List GSeg)(i:Nat):List Int:=match us[i]? with | some s=>plc (NL fr us) (keptL fr (us.take i)).length s.Items.length | none=>[]
theorem plcA_some {fr:List Int}{us:List GSeg}{i:Nat}{s:GSeg}(h:us[i]? =some s):plcA fr us i=plc (NL fr us) (keptL fr (us.take i)).length s.Items.length:=by unfold plcA;rw[h]
def segAtB (fr:List Int)(us:List GSeg)(i:Int):Bool:=decide (0≤i) && (match us[Int.toNat i]? with | some s=> !(frB fr s.No) | none=>false)
theorem segAt_some {fr:List Int}{us:List GSeg}{i:Int}{s:GSeg}(h0:0≤i)(h:us[Int.toNat i]? =some s):segAtB fr us i= !(frB fr s.No):=by unfold segAtB;rw[h,decide_eq_true h0,Bool.true_and]
theorem segAt_out {fr:List Int}{us:List GSeg}{i:Int}(h:¬ (0≤i∧i < (us.length:Int))):segAtB fr us i=false:=by
 unfold segAtB
 by_cases h0:0≤i
 ·rw [show us[Int.toNat i]? =none from List.getElem?_eq_none (by omega)];simp
 rw[decide_eq_false h0];rfl
theorem kept_room {fr:List Int}{us:List GSeg}{i:Nat}{s:GSeg}(h:us[i]? =some s)(hf:frB fr s.No=false):(keptL fr (us.take i)).length+s.Items.length≤(keptL fr us).length:=by
 have h1:=keptL_le fr us (i+1)
 rw[keptL_at h,if_neg (by rw[hf];decide),List.length_append] at h1
 exact h1
theorem frI_body {A:Alg}(hA:A=std){v:Int→List Int}(hv:∀ n,(v n).length=vln n){x:GItem}(hz:∀ q∈zsRec x.Rec,q≤1048576)(g:Int):(frI A v x g).Body.size≤10485760:=by
 unfold frI
 split
 ·exact recT_size hv hz (ofB1_size hA _)
 decide
theorem ndB_get {need:List Bool}{k:Nat}{b:Bool}(h:need[k]? =some b):ndB need k=b:=by unfold ndB;rw[h];rfl
theorem take_get {α:Type}{xs:List α}{n i:Nat}{x:α}(h:(xs.take n)[i]? =some x):xs[i]? =some x:=by
 rw[List.getElem?_take] at h
 split at h
 ·exact h
 cases h
end Go.Av

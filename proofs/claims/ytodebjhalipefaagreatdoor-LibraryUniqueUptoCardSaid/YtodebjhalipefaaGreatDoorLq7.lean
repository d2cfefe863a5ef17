/-  -/
import Derived.Test.YtodebjhalipefaaGreatDoorLq3
import Derived.Test.YtodebjhalipefaaGreatDoorLq19
import Derived.Test.YtodebjhalipefaaGreatDoorLq22
import Derived.Maps.OwnSet
import Derived.Test.YtodebjhalipefaaGreatDoorLq10
namespace Go.Proofs.YtodebjhalipefaaGreatDoor
set_option linter.all false
open Go.RowKit
theorem Yq (l:List aF) (j:Nat) (h:j<l.length):pG j (l.drop j)=if jG l[j]=0 then pG (j+1) (l.drop (j+1)) else some (jG l[j],j):=by
 rw [List.drop_eq_getElem_cons h,pG]
theorem OG (l:List aF) (j:Nat) (h:j<l.length) (hn:pF l j l[j]):kR l j (l.drop j)=kR l (j+1) (l.drop (j+1)):=by
 rw [List.drop_eq_getElem_cons h,kR,if_pos hn]
theorem SB (l:List aF) (j:Nat) (h:j<l.length) (hn:¬pF l j l[j]):kR l j (l.drop j)=some (7,j):=by
 rw [List.drop_eq_getElem_cons h,kR,if_neg hn]
theorem Yp (l:List aF) (j:Nat) (h:j<l.length):vM l j (l.drop j)=if uX l l[j]=0 then vM l (j+1) (l.drop (j+1)) else some (uX l l[j],j):=by
 rw [List.drop_eq_getElem_cons h,vM]
theorem abj {l:List aF} (hl:¬1000<l.length) {r:Int×Nat} (h:pG 0 l=some r):bZ l=r:=by unfold bZ;rw [if_neg hl,h];rfl
theorem OT {l:List aF} (hl:¬1000<l.length) (h0:pG 0 l=none) {r:Int×Nat} (h:kR l 0 l=some r):bZ l=r:=by unfold bZ;rw [if_neg hl,h0,h];rfl
theorem abe {l:List aF} (hl:¬1000<l.length) (h0:pG 0 l=none) (h1:kR l 0 l=none) {r:Int×Nat} (h:vM l 0 l=some r):bZ l=r:=by unfold bZ;rw [if_neg hl,h0,h1,h];rfl
theorem abf {l:List aF} (hl:¬1000<l.length) (h0:pG 0 l=none) (h1:kR l 0 l=none) (h:vM l 0 l=none):bZ l=(0,0):=by unfold bZ;rw [if_neg hl,h0,h1,h];rfl
end Go.Proofs.YtodebjhalipefaaGreatDoor

namespace Go.Proofs.YtodebjhalipefaaGreatDoor
set_option linter.all false
open Go.RowKit Go.Maps Go.WideMaps
theorem X7 {K:Type} [DecidableEq K] {l:List (K×aj)} (h:kG l) (k:K):(iE l k).length+(if (lookA l k).size=0 then 0 else 1)=l.length:=by
 induction l with
 | nil=>rfl
 | cons q l ih =>
  have hl:kG l:=⟨(List.pairwise_cons.1 h.1).2,fun x hx=>h.2 x (List.mem_cons_of_mem _ hx)⟩
  have ih:=ih hl
  rw [jJ]
  by_cases hk:q.1=k
  ·have hno:∀p∈l,p.1≠k:=fun p hp=>hk ▸ ((List.pairwise_cons.1 h.1).1 p hp).symm
   have e:=GV hno
   have hq:q.2.size≠0:=Nat.ne_of_gt (h.2 q (List.mem_cons_self ..))
   rw [if_pos hk,if_neg hq]
   unfold iE at e⊢
   rw [List.filter_cons]
   simp only [hk,beq_self_eq_true,Bool.not_true,Bool.false_eq_true,if_false]
   rw [e];simp
  ·unfold iE at ih⊢
   rw [List.filter_cons,if_neg hk]
   simp only [beq_iff_eq,hk,Bool.not_eq_true',beq_eq_false_iff_ne,ne_eq,not_false_eq_true,if_true,List.length_cons]
   omega
theorem adq (w:World):(zeroValue 9).run Tryz.prog w=.ok (.string ⟨#[]⟩) w:=by kernel_rfl
theorem plainElem_string_inv {P:Program} {e:TypeId} (he:P.underlying e=some .string) {v:Value} {z:DataW Unit×List MemPlace} (h:plainElem P e v=some z):∃s,v=.string s∧z.1=.lit (.string s.data.toList):=by
 unfold plainElem at h
 rw [he] at h
 split at h
 ·rename_i e;cases e
 ·rename_i e;cases e
 ·split at h
  ·cases h;exact ⟨_,rfl,rfl⟩
  ·cases h
 ·cases h
def agT (D:DataW Unit) (l:List (aj×aj)) (x:Option aj):Prop :=
 ∀s:aj,(Maps.has D (.string s.data.toList)=true↔((lookA l s).size≠0∨x=some s))∧∀z,D.atKey (.string s.data.toList) z=if (lookA l s).size=0∧x≠some s then z else .lit (.string (lookA l s).data.toList)
def iT (w:World) (B:Nat) (l:List (aj×aj)) (x:Option aj):Prop :=
 ∃D:DataW Unit,w.ownsMap Tryz.prog 9 (plainElem Tryz.prog 9) B (l.length+(if x=none then 0 else 1)) D∧IsMap D∧agT D l x
theorem iT.made (w:World):iT (w.alloc (.map #[] 0)) w.heap.size [] none :=
 ⟨.map [],World.ownsMap_made w _ _ _,⟨[],rfl⟩,fun s=>⟨⟨fun h=>(by cases h),fun h=>(by rcases h with h|h;exact absurd rfl h;cases h)⟩,fun z=>rfl⟩⟩
theorem iT.of {w:World} {B:Nat} (h:w.heap[B]?=some (.map #[] 0)):iT w B [] none:=by
 obtain ⟨es,clock,hb,F,hs,hD⟩:=World.ownsMap_made (H:=Unit) w Tryz.prog 9 (plainElem Tryz.prog 9)
 have e:(w.alloc (.map #[] 0)).heap[w.heap.size]?=some (.map #[] 0):=(MapKept.heap_alloc w _).1
 rw [e] at hb
 cases hb
 exact ⟨.map [],⟨#[],0,h,F,Nat.zero_le _,hD⟩,⟨[],rfl⟩,fun s=>⟨⟨fun h=>(by cases h),fun h=>(by rcases h with h|h;exact absurd rfl h;cases h)⟩,fun z=>rfl⟩⟩
theorem iT.lt {w:World} {B:Nat} {l:List (aj×aj)} {x:Option aj} (h:iT w B l x):B<w.heap.size:=by
 obtain ⟨D,h,_⟩:=h;exact h.lt
theorem iT.kept {w w':World} {B:Nat} {l:List (aj×aj)} {x:Option aj} {X:Nat→Prop} (h:iT w B l x) (hk:Kept X w w') (hx:¬X B):iT w' B l x:=by
 have hlt:=h.lt
 obtain ⟨D,⟨es,clock,hb,F,hs,hD⟩,h2⟩:=h
 exact ⟨D,⟨es,clock,(hk.block B hlt hx).trans hb,F,hs,hD⟩,h2⟩
theorem vN {w:World} {B n:Nat} {D:DataW Unit} (h:w.ownsMap Tryz.prog 9 (plainElem Tryz.prog 9) B n D) {m:Nat} (hm:Maps.size D≤m):w.ownsMap Tryz.prog 9 (plainElem Tryz.prog 9) B m D:=by
 obtain ⟨es,clock,hb,F,hs,rfl⟩:=h
 refine ⟨es,clock,hb,F,?_,rfl⟩
 simpa [Maps.size,length_sorted] using hm
theorem iT.look {w:World} {B:Nat} {l:List (aj×aj)} (h:iT w B l none) (s:aj) (hs:s.size≤maxLen) :
  (Instr.lookup 110 (.map (some B)) (.string s) false).run Tryz.prog w=.ok (.string (lookA l s)) w:=by
 obtain ⟨D,hown,hmap,hD⟩:=h
 have hz:plainElem (H:=Unit) Tryz.prog 9 (.string ⟨#[]⟩)=some (.lit (.string []),[]):=plainElem_string Tryz.underlying9 (by decide)
 obtain ⟨v,ps,hrun,hv⟩:=hown.lookup qy Tryz.underlying110 (adq w) hz (keyOf_string_mk Tryz.underlying9 hs)
 obtain ⟨u,rfl,hu⟩:=plainElem_string_inv Tryz.underlying9 hv
 rw [hrun]
 have h2:=(hD s).2 (.lit (.string []))
 dsimp only at hu
 rw [h2] at hu
 have e:u.data.toList=(lookA l s).data.toList:=by
  split at hu
  ·rename_i h0
   simp only [DataW.lit.injEq,Lit.string.injEq] at hu
   rw [oZ h0.1,←hu]
  ·simp only [DataW.lit.injEq,Lit.string.injEq] at hu;exact hu.symm
 have e2:u=lookA l s:=by
  obtain ⟨a⟩:=u
  generalize lookA l s=c at e
  obtain ⟨b⟩:=c
  exact congrArg ByteArray.mk (Array.toList_inj.1 e)
 rw [e2]
theorem Kept.turned {w w':World} {B:Nat} (h:w.mapTurned w' B):Kept (· = B) w w':=(Kept.refl (· = B) w).grown h.grown fun k hk=>.inl (by cases hk;rfl)
theorem iT.put {w:World} {B:Nat} {l:List (aj×aj)} (h:iT w B l none) (ho:kG l) (hn:l.length<maxLen) (s t:aj) (hs:s.size≤maxLen) (ht:t.size≤maxLen) :
  ∃w',(Instr.mapUpdate 110 (.map (some B)) (.string s) (.string t)).run Tryz.prog w=.ok () w'∧(if t.size=0 then iT w' B (iE l s) (some s) else iT w' B (jV l s t) none)∧Kept (· = B) w w':=by
 obtain ⟨D,hown,hmap,hD⟩:=h
 obtain ⟨w',hrun,hown',hturn⟩:=hown.store qy Tryz.underlying110 (by simpa using hn) (keyOf_string_mk Tryz.underlying9 hs) (plainElem_string (H:=Unit) Tryz.underlying9 ht)
 refine ⟨w',hrun,?_,Kept.turned hturn⟩
 have hkl:WideAt.IsKeyLit (Lit.string s.data.toList):=by first|exact .string _|trivial|(simp [WideAt.IsKeyLit])
 have hlen:=X7 ho s
 have hsz:Maps.size (D.put (.string s.data.toList) (.lit (.string t.data.toList)))≤(iE l s).length+1:=by
  rw [size_put (hown.tidy qy)]
  have h1:=hown.size_le
  simp only [if_true,Nat.add_zero] at h1
  split
  ·rename_i hh
   have h0:=(hD s).1.1 hh
   have h0:(lookA l s).size≠0:=h0.resolve_right (fun e=>by cases e)
   rw [if_neg h0] at hlen;omega
  ·rename_i hh
   have h0:(lookA l s).size=0:=Decidable.byContradiction fun hc=>hh ((hD s).1.2 (.inl hc))
   rw [if_pos h0] at hlen;omega
 have hmap':IsMap (D.put (.string s.data.toList) (.lit (.string t.data.toList))):=hmap.put _ _
 split
 ·rename_i h0
  refine ⟨_,vN hown' (by simpa using hsz),hmap',fun u=>?_⟩
  by_cases hu:u=s
  ·subst hu
   refine ⟨⟨fun _=>.inr rfl,fun _=>has_put_same hmap hkl _⟩,fun z=>?_⟩
   rw [atKey_put_same hmap hkl _ z,if_neg (fun h=>h.2 rfl),sV,oZ h0]
  ·rw [qW l hu,has_put_other (lG hu)]
   have:=hD u
   refine ⟨this.1.trans ⟨fun h=>.inl (h.resolve_right fun e=>by cases e),fun h=>.inl (h.resolve_right fun e=>hu (by cases e;rfl))⟩,fun z=>(atKey_put_other (lG hu) _ z).trans ((this.2 z).trans ?_)⟩
   have e1:(none:Option aj)≠some u:=fun e=>by cases e
   have e2:some s≠some u:=fun e=>hu (by cases e;rfl)
   simp only [e1,e2,ne_eq,not_false_eq_true,and_true]
 ·rename_i h0
  have hpl:(jV l s t).length=(iE l s).length+1:=by unfold jV;rw [if_neg h0];rfl
  refine ⟨_,vN hown' (by rw [hpl];simpa using hsz),hmap',fun u=>?_⟩
  by_cases hu:u=s
  ·subst hu
   rw [zA]
   refine ⟨⟨fun _=>.inl h0,fun _=>has_put_same hmap hkl _⟩,fun z=>?_⟩
   rw [atKey_put_same hmap hkl _ z,if_neg (fun h=>h0 h.1)]
  ·rw [yu l hu,has_put_other (lG hu)]
   refine ⟨(hD u).1,fun z=>?_⟩
   rw [atKey_put_other (lG hu)];exact (hD u).2 z
theorem iT.del {w:World} {B:Nat} {l:List (aj×aj)} {s:aj} (h:iT w B (iE l s) (some s)) (hs:s.size≤maxLen) (ty:TypeId) :
  ∃w',(Builtin.delete_ #[110,9] ty #[.map (some B),.string s]).run Tryz.prog w=.ok (.tuple #[]) w'∧iT w' B (iE l s) none∧Kept (· = B) w w':=by
 obtain ⟨D,hown,hmap,hD⟩:=h
 obtain ⟨w',hrun,hown',hturn⟩:=hown.drop qy Tryz.underlying110 (keyOf_string_mk Tryz.underlying9 hs) ty
 refine ⟨w',hrun,⟨_,vN hown' ?_,hmap.del _,fun u=>?_⟩,Kept.turned hturn⟩
 ·have h1:=size_del (k:=.string s.data.toList) (hown.tidy qy)
  have h2:=hown.size_le
  rw [if_pos ((hD s).1.2 (.inr rfl))] at h1
  simp only [reduceCtorEq,if_false] at h2
  simp only [if_true]
  omega
 ·by_cases hu:u=s
  ·subst hu
   rw [sV]
   refine ⟨⟨fun h=>(by rw [has_del_same] at h;cases h),fun h=>(by rcases h with h|h;exact absurd rfl h;cases h)⟩,fun z=>?_⟩
   rw [atKey_del_same];rfl
  ·rw [has_del_other (lG hu)]
   have:=hD u
   have e1:(none:Option aj)≠some u:=fun e=>by cases e
   have e2:some s≠some u:=fun e=>hu (by cases e;rfl)
   refine ⟨this.1.trans ⟨fun h=>.inl (h.resolve_right fun e=>e2 e),fun h=>.inl (h.resolve_right fun e=>by cases e)⟩,fun z=>?_⟩
   rw [atKey_del_other (lG hu),this.2 z]
   simp only [e1,e2,ne_eq,not_false_eq_true,and_true]
theorem Eo {w:World} {ops:Array Oper} {rest:List Oper} {o:Oper} {a:Act} {Q:Exit→Act→World→Prop} (hg:o.guard=none) (p x y:Operand) (hop:o.op=Op.mapUpdate 110 p x y)
  {B:Nat} {l:List (aj×aj)} (hm:a.eval p=.map (some B)) (h:iT w B l none) (ho:kG l) (hn:l.length<maxLen) (s t:aj) (hx:a.eval x=.string s) (hs:s.size≤maxLen) (hy:a.eval y=.string t) (ht:t.size≤maxLen)
  (hK:∀w',(if t.size=0 then iT w' B (iE l s) (some s) else iT w' B (jV l s t) none)→Kept (· = B) w w'→wpList Tryz.prog ops Q rest (a.put o.dst undef) w'):wpList Tryz.prog ops Q (o::rest) a w:=by
 obtain ⟨w',hrun,h1,h2⟩:=h.put ho hn s t hs ht
 refine wpList_plain hg fun K' hK'=>?_
 unfold Oper.wp
 simp [execOp,hop,hm,hx,hy,hrun,Result.andThen]
 exact hK' _ _ (hK w' h1 h2)
theorem Qr {w:World} {ops:Array Oper} {rest:List Oper} {o:Oper} {a:Act} {Q:Exit→Act→World→Prop} (hg:o.guard=none) (p x:Operand) (hop:o.op=Op.call {callee:=Callee.builtin Builtin.delete,args:=#[p,x],argTypes:=#[110,9]})
  {B:Nat} {l:List (aj×aj)} {s:aj} (hm:a.eval p=.map (some B)) (h:iT w B (iE l s) (some s)) (hx:a.eval x=.string s) (hs:s.size≤maxLen)
  (hK:∀w',iT w' B (iE l s) none→Kept (· = B) w w'→wpList Tryz.prog ops Q rest (a.put o.dst (.tuple #[])) w'):wpList Tryz.prog ops Q (o::rest) a w:=by
 obtain ⟨w',hrun,h1,h2⟩:=h.del hs o.type
 refine wpList_plain hg fun K' hK'=>?_
 unfold Oper.wp
 simp [execOp,hop,resolve,invoke,builtin,hm,hx,hrun,Result.andThen]
 exact hK' _ _ (hK w' h1 h2)
end Go.Proofs.YtodebjhalipefaaGreatDoor

namespace Go.Proofs.YtodebjhalipefaaGreatDoor
set_option linter.all false
open Go.RowKit
set_option maxRecDepth 100000
set_option maxHeartbeats 4000000
theorem WV.ten {w:World} {S:Nat→Prop} {v:Value} (h:WV w S v 10):ad3 w v:=by
 rcases h with ⟨h,_⟩|⟨_,_,b,c,e,_,h3⟩|⟨h,_⟩
 ·omega
 ·exact ⟨b,c,e,h3⟩
 ·omega
theorem WV.shape2 {w:World} {S:Nat→Prop} {v:Value} {u:Nat} (h:WV w S v u):∃a n c,v=.slice a n c∧n≤2:=by
 rcases h with ⟨_,a,c,e⟩|⟨_,_,b,c,e,_⟩|⟨_,_,b,c,e,_⟩<;>exact ⟨_,_,_,e,by omega⟩
def ad4 (u:Nat) (w:World) (e:Ending) (w':World):Prop:=∃q r,e=.returned (.tuple #[q,r])∧WV w' (· < w'.heap.size) q (u/10)∧WV w' (· < w'.heap.size) r (u % 10)∧Kept aA w w'
theorem acI (v t:Value) (u:Nat) (hu:u<9223372036854775808) (w:World) (h:WV w (· < w.heap.size) v u) (ht:WV w (· < w.heap.size) t 10):Calls Tryz.prog 33 #[v,t] w (ad4 u w):=by
 obtain ⟨tb,tc,rfl,t0⟩:=ht.ten
 obtain ⟨a,n,c,rfl,hn2⟩:=h.shape2
 have HV:Hid (∀wy,Kept aA w wy→WV wy (· < wy.heap.size) (.slice a n c) u):=fun wy hk=>h.to hk (fun b hb=>⟨hb,fun h=>h⟩) (fun b hb=>Nat.lt_of_lt_of_le hb hk.size)
 have HT:Hid (∀wy,Kept aA w wy→WV wy (· < wy.heap.size) (.slice (some ⟨tb,0,none⟩) 1 tc) 10):=fun wy hk=>ht.to hk (fun b hb=>⟨hb,fun h=>h⟩) (fun b hb=>Nat.lt_of_lt_of_le hb hk.size)
 have HC:=ah (acH _ _ u _ w h ht.ten)
 have d2:decide ((n:Int)≤2)=true:=ak (by omega)
 have d2':decide (n≤2)=true:=ak hn2
 clear h ht t0
 by_cases hlt:u<10
 ·have zk:=ah hlt
  clear hlt
  go_enter Tryz.func33, Tryz.ntmps33
  go_wp2_with (first
   | (go_at_call 47;(refine HC.out.mono ?_);rintro e w1 ⟨⟨z,rfl,hz⟩,k1⟩;have K1:=ah k1;have dz:decide (z<0)=true:=ak (hz.2 zk.out);clear k1 hz)
   | (go_at_call 32;(refine (twin_any _ u w1 (HV.out w1 K1.out)).mono ?_);rintro e w2 ⟨v2,rfl,hv2,k2⟩;have V2:=ah hv2;have K2:=ah k2;clear hv2 k2))
  go_ret2
  have:=zk.out
  exact ⟨_,_,rfl,.inl ⟨by omega,_,_,rfl⟩,by rw [Nat.mod_eq_of_lt this];exact V2.out.to (Kept.refl aA _) (fun b hb=>⟨hb.2,fun h=>h⟩) (fun b hb=>hb.2),K1.out.trans K2.out⟩
 ·have zk:=ah hlt
  have HQ:Hid (∀wy,Calls Tryz.prog 49 #[.int .u64 (IntKind.u64.wrap ((u:Int)/10))] wy (BJ (u/10) wy)):=fun wy=>by
   rw [show IntKind.u64.wrap ((u:Int)/10)=((u/10:Nat):Int) by rw [IntKind.wrap_u64];omega];exact xQ (u/10) (by omega) wy
  have HR2:Hid (∀wy,Calls Tryz.prog 49 #[.int .u64 ((u:Int).tmod 10)] wy (BJ (u % 10) wy)):=fun wy=>by
   rw [show (u:Int).tmod 10=((u % 10:Nat):Int) by rw [Int.tmod_eq_emod_of_nonneg (by omega)];omega];exact xQ (u % 10) (by omega) wy
  have HR:Hid (∀wy,Calls Tryz.prog 49 #[.int .u64 ((u:Int) % 10)] wy (BJ (u % 10) wy)):=fun wy=>by
   rw [show (u:Int) % 10=((u % 10:Nat):Int) by omega];exact xQ (u % 10) (by omega) wy
  clear hlt
  go_enter Tryz.func33, Tryz.ntmps33
  go_upto_region 7 with (first
   | (go_at_call 47;(refine HC.out.mono ?_);rintro e w1 ⟨⟨z,rfl,hz⟩,k1⟩;have K1:=ah k1;have dz:decide (z<0)=false:=au (fun h=>zk.out (hz.1 h));clear k1 hz)
   | (go_at_call 48;(with_reducible refine (JL _ u _ w1 (HV.out w1 K1.out)).mono ?_);rintro e w' ⟨rfl,aH⟩;obtain rfl:=aH.symm)
   | (go_at_call 48;(with_reducible refine (JL _ 10 _ w1 (HT.out w1 K1.out)).mono ?_);rintro e w' ⟨rfl,aH⟩;obtain rfl:=aH.symm))
  go_region_with (first
   | (go_at_call 49;(with_reducible refine (HQ.out _).mono ?_);rintro e wq ⟨vq,rfl,hq,kq⟩;have VQ:=ah hq;have KQ:=ah kq;clear hq kq)
   | (go_at_call 49;(with_reducible refine (HR.out _).mono ?_);rintro e wr ⟨vr,rfl,hr,kr⟩;have VR:=ah hr;have KR:=ah kr;clear hr kr)
   | (go_at_call 49;(with_reducible refine (HR2.out _).mono ?_);rintro e wr ⟨vr,rfl,hr,kr⟩;have VR:=ah hr;have KR:=ah kr;clear hr kr))
  all_goals
   go_wp2_with fail
   go_ret2
   first
    | (have k:=ah (((Kept.refl aA w1).drew.trans KQ.out).trans KR.out);exact ⟨_,_,rfl,VQ.out.to KR.out (fun b hb=>⟨hb.2,fun h=>h⟩) (fun b hb=>Nat.lt_of_lt_of_le hb.2 KR.out.size),VR.out.to (Kept.refl aA _) (fun b hb=>⟨hb.2,fun h=>h⟩) (fun b hb=>hb.2),K1.out.trans k.out⟩)
    | (have k:=ah (((Kept.refl aA w1).drew.trans KR.out).trans KQ.out);exact ⟨_,_,rfl,VQ.out.to (Kept.refl aA _) (fun b hb=>⟨hb.2,fun h=>h⟩) (fun b hb=>hb.2),VR.out.to KQ.out (fun b hb=>⟨hb.2,fun h=>h⟩) (fun b hb=>Nat.lt_of_lt_of_le hb.2 KQ.out.size),K1.out.trans k.out⟩)
def QrQ (X R u:Nat) (w:World) (e:Ending) (w':World):Prop:=e=.returned (.tuple #[.pointer (some ⟨X,0,none⟩),.pointer (some ⟨R,0,none⟩)])∧iV w' X (u/10)∧iV w' R (u % 10)∧Kept (fun b=>b=X∨b=R) w w'
theorem TF (X T R u:Nat) (hu:u<9223372036854775808) (w:World) (hX:iV w X u) (hT:iV w T 10) (hR:um w R) (VU:X≠R):Calls Tryz.prog 18 #[.pointer (some ⟨X,0,none⟩),.pointer (some ⟨X,0,none⟩),.pointer (some ⟨T,0,none⟩),.pointer (some ⟨R,0,none⟩)] w (QrQ X R u w):=by
 have HX:=ah hX.blk;have HR:=ah hR
 obtain ⟨v,x0,x1,hv⟩:=hX.parts
 obtain ⟨t,t0,t1,ht⟩:=hT.parts
 obtain ⟨va,vn,vc,rfl⟩:=hv.shape
 obtain ⟨ta,tn,tc,rfl⟩:=ht.shape
 have KD:∀wy:World,Kept aA w wy→WV wy (· < wy.heap.size) (.slice va vn vc) u∧WV wy (· < wy.heap.size) (.slice ta tn tc) 10:=fun wy hk=>⟨hv.to hk (fun b hb=>⟨hb,fun h=>h⟩) (fun b hb=>Nat.lt_of_lt_of_le hb hk.size),ht.to hk (fun b hb=>⟨hb,fun h=>h⟩) (fun b hb=>Nat.lt_of_lt_of_le hb hk.size)⟩
 have kdd:Kept aA w w.drew.drew:=(Kept.refl _ _).drew.drew
 have HD:Hid (Calls Tryz.prog 33 #[.slice va vn vc,.slice ta tn tc] w.drew.drew (ad4 u w.drew.drew)):=acI _ _ u hu _ (KD _ kdd).1 (KD _ kdd).2
 have KDD:=ah kdd
 have hbb:(false != false)=false:=rfl
 clear hX hT hR hv ht KD kdd
 go_enter Tryz.func18, Tryz.ntmps18
 go_upto_region 1 with fail
 go_region
 all_goals
  go_upto_region 2 with fail
  go_region_with (go_at_call 33;(refine HD.out.mono ?_);rintro e w1 ⟨q,r,rfl,hq,hr,k1⟩;obtain ⟨qa,qn,qc,rfl⟩:=hq.shape;obtain ⟨ra,rn,rc,rfl⟩:=hr.shape;have VQ:=ah hq;have VR:=ah hr;have K1:Hid (Kept aA w w1):=KDD.out.trans k1;clear hq hr k1)
 all_goals
  have HX1:=ah (HX.out.kept K1.out (fun h=>h));have HR1:=ah (HR.out.kept K1.out (fun h=>h))
  go_wp2_with (first
   | (go_at_call 31;(with_reducible refine (zU X qa qn qc w1 HX1.out).mono ?_);rintro e w2 ⟨rfl,hb2,k2⟩;have B2:=ah hb2;have K2:=ah k2;have HR2:=ah (HR1.out.kept k2 (fun h=>VU h.symm));clear hb2 k2)
   | (go_at_call 31;(with_reducible refine (zU R ra rn rc w2 HR2.out).mono ?_);rintro e w3 ⟨rfl,hb3,k3⟩;have B3:=ah hb3;have K3:=ah k3;clear hb3 k3))
  go_ret2
  have V2:=VQ.out.set K2.out (fun M hM=>by rw [hM];exact HX1.out)
  have X2:iV w2 X (u/10):=⟨_,B2.out,V2⟩
  have X3:=X2.set K3.out (fun M hM=>by rw [hM];exact HR2.out) VU
  have R2:=VR.out.set K2.out (fun M hM=>by rw [hM];exact HX1.out)
  have R3:=R2.set K3.out (fun M hM=>by rw [hM];exact HR2.out)
  exact ⟨rfl,X3,⟨_,B3.out,R3⟩,((K1.out.more (fun _ h=>h.elim)).trans (K2.out.more (fun _ h=>.inl h))).trans (K3.out.more (fun _ h=>.inr h))⟩
end Go.Proofs.YtodebjhalipefaaGreatDoor

/-  -/
import Derived.Test.YtgoijmpahffnhaaGreatDoorLq7
import Derived.Test.YtgoijmpahffnhaaGreatDoorRs0
import Derived.Maps.OwnSet
namespace Go.Proofs.YtgoijmpahffnhaaGreatDoor
set_option linter.all false
open Go.RowKit Go.Maps Go.WideMaps
theorem ZB {K:Type} [DecidableEq K] {l:List (K×aj)} (h:kW l) (k:K):(iF l k).length+(if (lookA l k).size=0 then 0 else 1)=l.length:=by
 induction l with
 | nil=>rfl
 | cons q l ih =>
  have hl:kW l:=⟨(List.pairwise_cons.1 h.1).2,fun x hx=>h.2 x (List.mem_cons_of_mem _ hx)⟩
  have ih:=ih hl
  rw [jU]
  by_cases hk:q.1=k
  ·have hno:∀p∈l,p.1≠k:=fun p hp=>hk ▸ ((List.pairwise_cons.1 h.1).1 p hp).symm
   have e:=Io hno
   have hq:q.2.size≠0:=Nat.ne_of_gt (h.2 q (List.mem_cons_self ..))
   rw [if_pos hk,if_neg hq]
   unfold iF at e⊢
   rw [List.filter_cons]
   simp only [hk,beq_self_eq_true,Bool.not_true,Bool.false_eq_true,if_false]
   rw [e];simp
  ·unfold iF at ih⊢
   rw [List.filter_cons,if_neg hk]
   simp only [beq_iff_eq,hk,Bool.not_eq_true',beq_eq_false_iff_ne,ne_eq,not_false_eq_true,if_true,List.length_cons]
   omega
theorem ae5 (w:World):(zeroValue 9).run Tryz.prog w=.ok (.string ⟨#[]⟩) w:=by kernel_rfl
theorem plainElem_string_inv {P:Program} {e:TypeId} (he:P.underlying e=some .string) {v:Value} {z:DataW Unit×List MemPlace} (h:plainElem P e v=some z):∃s,v=.string s∧z.1=.lit (.string s.data.toList):=by
 unfold plainElem at h
 rw [he] at h
 split at h
 ·rename_i e;cases e
 ·rename_i e;cases e
 ·split at h
  ·cases h;exact ⟨_,rfl,rfl⟩
  ·cases h
 ·cases h
def aib (D:DataW Unit) (l:List (aj×aj)) (x:Option aj):Prop :=
 ∀s:aj,(Maps.has D (.string s.data.toList)=true↔((lookA l s).size≠0∨x=some s))∧∀z,D.atKey (.string s.data.toList) z=if (lookA l s).size=0∧x≠some s then z else .lit (.string (lookA l s).data.toList)
def ji (w:World) (B:Nat) (l:List (aj×aj)) (x:Option aj):Prop :=
 ∃D:DataW Unit,w.ownsMap Tryz.prog 9 (plainElem Tryz.prog 9) B (l.length+(if x=none then 0 else 1)) D∧IsMap D∧aib D l x
theorem ji.of {w:World} {B:Nat} (h:w.heap[B]?=some (.map #[] 0)):ji w B [] none:=by
 obtain ⟨es,clock,hb,F,hs,hD⟩:=World.ownsMap_made (H:=Unit) w Tryz.prog 9 (plainElem Tryz.prog 9)
 have e:(w.alloc (.map #[] 0)).heap[w.heap.size]?=some (.map #[] 0):=(MapKept.heap_alloc w _).1
 rw [e] at hb
 cases hb
 exact ⟨.map [],⟨#[],0,h,F,Nat.zero_le _,hD⟩,⟨[],rfl⟩,fun s=>⟨⟨fun h=>(by cases h),fun h=>(by rcases h with h|h;exact absurd rfl h;cases h)⟩,fun z=>rfl⟩⟩
theorem ji.lt {w:World} {B:Nat} {l:List (aj×aj)} {x:Option aj} (h:ji w B l x):B<w.heap.size:=by
 obtain ⟨D,h,_⟩:=h;exact h.lt
theorem ji.kept {w w':World} {B:Nat} {l:List (aj×aj)} {x:Option aj} {X:Nat→Prop} (h:ji w B l x) (hk:Kept X w w') (hx:¬X B):ji w' B l x:=by
 have hlt:=h.lt
 obtain ⟨D,⟨es,clock,hb,F,hs,hD⟩,h2⟩:=h
 exact ⟨D,⟨es,clock,(hk.block B hlt hx).trans hb,F,hs,hD⟩,h2⟩
theorem wU {w:World} {B n:Nat} {D:DataW Unit} (h:w.ownsMap Tryz.prog 9 (plainElem Tryz.prog 9) B n D) {m:Nat} (hm:Maps.size D≤m):w.ownsMap Tryz.prog 9 (plainElem Tryz.prog 9) B m D:=by
 obtain ⟨es,clock,hb,F,hs,rfl⟩:=h
 refine ⟨es,clock,hb,F,?_,rfl⟩
 simpa [Maps.size,length_sorted] using hm
theorem ji.look {w:World} {B:Nat} {l:List (aj×aj)} (h:ji w B l none) (s:aj) (hs:s.size≤maxLen) :
  (Instr.lookup 94 (.map (some B)) (.string s) false).run Tryz.prog w=.ok (.string (lookA l s)) w:=by
 obtain ⟨D,hown,hmap,hD⟩:=h
 have hz:plainElem (H:=Unit) Tryz.prog 9 (.string ⟨#[]⟩)=some (.lit (.string []),[]):=plainElem_string Tryz.underlying9 (by decide)
 obtain ⟨v,ps,hrun,hv⟩:=hown.lookup qU Tryz.underlying94 (ae5 w) hz (keyOf_string_mk Tryz.underlying9 hs)
 obtain ⟨u,rfl,hu⟩:=plainElem_string_inv Tryz.underlying9 hv
 rw [hrun]
 have h2:=(hD s).2 (.lit (.string []))
 dsimp only at hu
 rw [h2] at hu
 have e:u.data.toList=(lookA l s).data.toList:=by
  split at hu
  ·rename_i h0
   simp only [DataW.lit.injEq,Lit.string.injEq] at hu
   rw [pR h0.1,←hu]
  ·simp only [DataW.lit.injEq,Lit.string.injEq] at hu;exact hu.symm
 have e2:u=lookA l s:=by
  obtain ⟨a⟩:=u
  generalize lookA l s=c at e
  obtain ⟨b⟩:=c
  exact congrArg ByteArray.mk (Array.toList_inj.1 e)
 rw [e2]
theorem Kept.turned {w w':World} {B:Nat} (h:w.mapTurned w' B):Kept (· = B) w w':=(Kept.refl (· = B) w).grown h.grown fun k hk=>.inl (by cases hk;rfl)
theorem ji.put {w:World} {B:Nat} {l:List (aj×aj)} (h:ji w B l none) (ho:kW l) (hn:l.length<maxLen) (s t:aj) (hs:s.size≤maxLen) (ht:t.size≤maxLen) :
  ∃w',(Instr.mapUpdate 94 (.map (some B)) (.string s) (.string t)).run Tryz.prog w=.ok () w'∧(if t.size=0 then ji w' B (iF l s) (some s) else ji w' B (kL l s t) none)∧Kept (· = B) w w':=by
 obtain ⟨D,hown,hmap,hD⟩:=h
 obtain ⟨w',hrun,hown',hturn⟩:=hown.store qU Tryz.underlying94 (by simpa using hn) (keyOf_string_mk Tryz.underlying9 hs) (plainElem_string (H:=Unit) Tryz.underlying9 ht)
 refine ⟨w',hrun,?_,Kept.turned hturn⟩
 have hkl:WideAt.IsKeyLit (Lit.string s.data.toList):=by first|exact .string _|trivial|(simp [WideAt.IsKeyLit])
 have hlen:=ZB ho s
 have hsz:Maps.size (D.put (.string s.data.toList) (.lit (.string t.data.toList)))≤(iF l s).length+1:=by
  rw [size_put (hown.tidy qU)]
  have h1:=hown.size_le
  simp only [if_true,Nat.add_zero] at h1
  split
  ·rename_i hh
   have h0:=(hD s).1.1 hh
   have h0:(lookA l s).size≠0:=h0.resolve_right (fun e=>by cases e)
   rw [if_neg h0] at hlen;omega
  ·rename_i hh
   have h0:(lookA l s).size=0:=Decidable.byContradiction fun hc=>hh ((hD s).1.2 (.inl hc))
   rw [if_pos h0] at hlen;omega
 have hmap':IsMap (D.put (.string s.data.toList) (.lit (.string t.data.toList))):=hmap.put _ _
 split
 ·rename_i h0
  refine ⟨_,wU hown' (by simpa using hsz),hmap',fun u=>?_⟩
  by_cases hu:u=s
  ·subst hu
   refine ⟨⟨fun _=>.inr rfl,fun _=>has_put_same hmap hkl _⟩,fun z=>?_⟩
   rw [atKey_put_same hmap hkl _ z,if_neg (fun h=>h.2 rfl),uz,pR h0]
  ·rw [rX l hu,has_put_other (mG hu)]
   have:=hD u
   refine ⟨this.1.trans ⟨fun h=>.inl (h.resolve_right fun e=>by cases e),fun h=>.inl (h.resolve_right fun e=>hu (by cases e;rfl))⟩,fun z=>(atKey_put_other (mG hu) _ z).trans ((this.2 z).trans ?_)⟩
   have e1:(none:Option aj)≠some u:=fun e=>by cases e
   have e2:some s≠some u:=fun e=>hu (by cases e;rfl)
   simp only [e1,e2,ne_eq,not_false_eq_true,and_true]
 ·rename_i h0
  have hpl:(kL l s t).length=(iF l s).length+1:=by unfold kL;rw [if_neg h0];rfl
  refine ⟨_,wU hown' (by rw [hpl];simpa using hsz),hmap',fun u=>?_⟩
  by_cases hu:u=s
  ·subst hu
   rw [Ad]
   refine ⟨⟨fun _=>.inl h0,fun _=>has_put_same hmap hkl _⟩,fun z=>?_⟩
   rw [atKey_put_same hmap hkl _ z,if_neg (fun h=>h0 h.1)]
  ·rw [y7 l hu,has_put_other (mG hu)]
   refine ⟨(hD u).1,fun z=>?_⟩
   rw [atKey_put_other (mG hu)];exact (hD u).2 z
theorem ji.del {w:World} {B:Nat} {l:List (aj×aj)} {s:aj} (h:ji w B (iF l s) (some s)) (hs:s.size≤maxLen) (ty:TypeId) :
  ∃w',(Builtin.delete_ #[94,9] ty #[.map (some B),.string s]).run Tryz.prog w=.ok (.tuple #[]) w'∧ji w' B (iF l s) none∧Kept (· = B) w w':=by
 obtain ⟨D,hown,hmap,hD⟩:=h
 obtain ⟨w',hrun,hown',hturn⟩:=hown.drop qU Tryz.underlying94 (keyOf_string_mk Tryz.underlying9 hs) ty
 refine ⟨w',hrun,⟨_,wU hown' ?_,hmap.del _,fun u=>?_⟩,Kept.turned hturn⟩
 ·have h1:=size_del (k:=.string s.data.toList) (hown.tidy qU)
  have h2:=hown.size_le
  rw [if_pos ((hD s).1.2 (.inr rfl))] at h1
  simp only [reduceCtorEq,if_false] at h2
  simp only [if_true]
  omega
 ·by_cases hu:u=s
  ·subst hu
   rw [uz]
   refine ⟨⟨fun h=>(by rw [has_del_same] at h;cases h),fun h=>(by rcases h with h|h;exact absurd rfl h;cases h)⟩,fun z=>?_⟩
   rw [atKey_del_same];rfl
  ·rw [has_del_other (mG hu)]
   have:=hD u
   have e1:(none:Option aj)≠some u:=fun e=>by cases e
   have e2:some s≠some u:=fun e=>hu (by cases e;rfl)
   refine ⟨this.1.trans ⟨fun h=>.inl (h.resolve_right fun e=>e2 e),fun h=>.inl (h.resolve_right fun e=>by cases e)⟩,fun z=>?_⟩
   rw [atKey_del_other (mG hu),this.2 z]
   simp only [e1,e2,ne_eq,not_false_eq_true,and_true]
theorem Fa {w:World} {ops:Array Oper} {rest:List Oper} {o:Oper} {a:Act} {Q:Exit→Act→World→Prop} (hg:o.guard=none) (p x y:Operand) (hop:o.op=Op.mapUpdate 94 p x y)
  {B:Nat} {l:List (aj×aj)} (hm:a.eval p=.map (some B)) (h:ji w B l none) (ho:kW l) (hn:l.length<maxLen) (s t:aj) (hx:a.eval x=.string s) (hs:s.size≤maxLen) (hy:a.eval y=.string t) (ht:t.size≤maxLen)
  (hK:∀w',(if t.size=0 then ji w' B (iF l s) (some s) else ji w' B (kL l s t) none)→Kept (· = B) w w'→wpList Tryz.prog ops Q rest (a.put o.dst undef) w'):wpList Tryz.prog ops Q (o::rest) a w:=by
 obtain ⟨w',hrun,h1,h2⟩:=h.put ho hn s t hs ht
 refine wpList_plain hg fun K' hK'=>?_
 unfold Oper.wp
 simp [execOp,hop,hm,hx,hy,hrun,Result.andThen]
 exact hK' _ _ (hK w' h1 h2)
theorem QT {w:World} {ops:Array Oper} {rest:List Oper} {o:Oper} {a:Act} {Q:Exit→Act→World→Prop} (hg:o.guard=none) (p x:Operand) (hop:o.op=Op.call {callee:=Callee.builtin Builtin.delete,args:=#[p,x],argTypes:=#[94,9]})
  {B:Nat} {l:List (aj×aj)} {s:aj} (hm:a.eval p=.map (some B)) (h:ji w B (iF l s) (some s)) (hx:a.eval x=.string s) (hs:s.size≤maxLen)
  (hK:∀w',ji w' B (iF l s) none→Kept (· = B) w w'→wpList Tryz.prog ops Q rest (a.put o.dst (.tuple #[])) w'):wpList Tryz.prog ops Q (o::rest) a w:=by
 obtain ⟨w',hrun,h1,h2⟩:=h.del hs o.type
 refine wpList_plain hg fun K' hK'=>?_
 unfold Oper.wp
 simp [execOp,hop,resolve,invoke,builtin,hm,hx,hrun,Result.andThen]
 exact hK' _ _ (hK w' h1 h2)
end Go.Proofs.YtgoijmpahffnhaaGreatDoor

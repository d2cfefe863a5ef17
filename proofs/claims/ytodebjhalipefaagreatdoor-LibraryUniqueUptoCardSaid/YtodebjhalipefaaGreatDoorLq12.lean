/-  -/
import Derived.Test.YtodebjhalipefaaGreatDoorLq30
import Derived.Test.YtodebjhalipefaaGreatDoorPg3
import Derived.Test.YtodebjhalipefaaGreatDoorLq15
import Derived.MapKept
import Derived.Deep.CutBlock
import Derived.Test.YtodebjhalipefaaGreatDoorLq19
import Derived.Test.YtodebjhalipefaaGreatDoorLq14
import Derived.Test.YtodebjhalipefaaGreatDoorLq7
import Derived.Test.YtodebjhalipefaaGreatDoorLq8
import Derived.Deep.LoopGhost
namespace Go.Proofs.YtodebjhalipefaaGreatDoor
set_option linter.all false
open Go.RowKit
def U5:List aj→Bool
 | []=>true
 | x::r=>(r.all fun y=>decide (y≠x))&&U5 r
def ownB (l:List aj):Bool:=(l.all fun x=>decide (x.data.toList≠[73,78,80,85,84])&&decide (x.data.toList≠[79,85,84,80,85,84]))&&U5 l
theorem Si:∀(l:List aj),U5 l=true→∀a (h:a<l.length) b (hb:b<a),l[a]≠l[b]'(by omega)
 | [],_,a,h,_,_=>by simp at h
 | x::r,hd,a,h,b,hb=>by
  rw [U5,Bool.and_eq_true] at hd
  obtain ⟨a',rfl⟩:∃a',a=a'+1:=⟨a-1,by omega⟩
  have ha:a'<r.length:=by simpa using h
  cases b with
  | zero =>
   have:=List.all_eq_true.1 hd.1 _ (List.getElem_mem ha)
   simpa using this
  | succ b =>
   have:=Si r hd.2 a' ha b (by omega)
   simpa using this
theorem adp {l:List aj} (h:ownB l=true):GU l:=by
 unfold ownB at h
 rw [Bool.and_eq_true] at h
 intro a ha
 have h1:=List.all_eq_true.1 h.1 _ (List.getElem_mem ha)
 simp only [Bool.and_eq_true,decide_eq_true_eq] at h1
 exact ⟨by rw [ByteArray.toList_eq];exact h1.1,by rw [ByteArray.toList_eq];exact h1.2,fun b hb=>Si l h.2 a ha b hb⟩
def Ox (l:List aF) (i:Nat) (s:aF):Bool :=
 (decide (s.label.size=0)||(decide (qN s.label=false)&&decide (nS l s.label=i))) &&
 (decide (s.kind≠7)||(decide (aI s.name<0)&&decide (funcF l s.name=i)&&ownB (s.name::s.params++s.locals)))
theorem XV {l:List aF} {i:Nat} {s:aF} (h:Ox l i s=true):pF l i s:=by
 unfold Ox at h
 simp only [Bool.and_eq_true,Bool.or_eq_true,decide_eq_true_eq] at h
 refine ⟨h.1,fun hk=>?_⟩
 rcases h.2 with h2|h2
 ·exact absurd hk h2
 ·exact ⟨⟨h2.1.1,h2.1.2⟩,adp h2.2⟩
def wrB (l:List aF):Bool:=l.all fun s=>decide (jG s=0)
def nmB (l:List aF):Nat→List aF→Bool
 | _,[]=>true
 | i,s::r=>Ox l i s&&nmB l (i+1) r
def usB (l:List aF):Bool:=l.all fun s=>decide (uX l s=0)
def XW (l:List aF):Bool:=decide (l.length≤1000)&&wrB l&&nmB l 0 l&&usB l
theorem XY:∀(l:List aF) (i:Nat),wrB l=true→pG i l=none
 | [],_,_=>rfl
 | s::r,i,h=>by
  unfold wrB at h
  rw [List.all_cons,Bool.and_eq_true,decide_eq_true_eq] at h
  rw [pG,if_pos h.1];exact XY r (i+1) h.2
theorem XZ (l:List aF):∀(r:List aF) (i:Nat),nmB l i r=true→kR l i r=none
 | [],_,_=>rfl
 | s::r,i,h=>by
  rw [nmB,Bool.and_eq_true] at h
  rw [kR,if_pos (XV h.1)];exact XZ l r (i+1) h.2
theorem X0 (l:List aF):∀(r:List aF) (i:Nat),(r.all fun s=>decide (uX l s=0))=true→vM l i r=none
 | [],_,_=>rfl
 | s::r,i,h=>by
  rw [List.all_cons,Bool.and_eq_true,decide_eq_true_eq] at h
  rw [vM,if_pos h.1];exact X0 l r (i+1) h.2
theorem J5 {l:List aF} (h:XW l=true):bZ l=(0,0)∧l.length≤1000:=by
 unfold XW at h
 simp only [Bool.and_eq_true,decide_eq_true_eq] at h
 obtain ⟨⟨⟨h1,h2⟩,h3⟩,h4⟩:=h
 refine ⟨?_,h1⟩
 unfold bZ
 rw [if_neg (by omega),XY l 0 h2,XZ l l 0 h3,X0 l l 0 h4]
 rfl
end Go.Proofs.YtodebjhalipefaaGreatDoor

namespace Go.Proofs.YtodebjhalipefaaGreatDoor
set_option linter.all false
open Go.RowKit Go.MapKept
def BA:List (Int×Value)→Nat→List MapEntry
 | [],_=>[]
 | p::r,i=>⟨.int .i64 p.1,p.2,i⟩::BA r (i+1)
theorem Oc (p:Int×Value):∀(l:List (Int×Value)) (i:Nat),BA (l++[p]) i=BA l i++[⟨.int .i64 p.1,p.2,i+l.length⟩]
 | [],i=>by simp [BA]
 | q::r,i=>by rw [List.cons_append,BA,BA,Oc p r (i+1),List.cons_append,List.length_cons,show i+1+r.length=i+(r.length+1) by omega]
theorem CP (k:Int):∀(l:List (Int×Value)) (i j:Nat),(∀p∈l,p.1≠k)→Instr.findNow (.int .i64) (.int .i64 k) (BA l i) j=some none
 | [],i,j,_=>rfl
 | p::r,i,j,h=>by
  have h1:(k==p.1)=false:=by have:=h p (List.mem_cons_self ..);simpa using fun e=>this e.symm
  rw [BA,Instr.findNow]
  simp only [Instr.sameNow,if_true,h1]
  exact CP k r (i+1) (j+1) fun q hq=>h q (List.mem_cons_of_mem _ hq)
theorem CQ (k:Int) (v:Value):∀(l:List (Int×Value)) (i j:Nat),(∀p∈l,p.1=k→p.2=v)→(∃p∈l,p.1=k)→∃m,Instr.findNow (.int .i64) (.int .i64 k) (BA l i) j=some (some (m,v))
 | [],i,j,_,h=>by obtain ⟨p,hp,_⟩:=h;cases hp
 | p::r,i,j,h,he=>by
  rw [BA,Instr.findNow]
  by_cases h1:p.1=k
  ·have h2:(k==p.1)=true:=by simp [h1]
   simp only [Instr.sameNow,if_true,h2]
   exact ⟨j,by rw [h p (List.mem_cons_self ..) h1]⟩
  ·have h2:(k==p.1)=false:=by simpa using fun e=>h1 e.symm
   simp only [Instr.sameNow,if_true,h2]
   refine CQ k v r (i+1) (j+1) (fun q hq=>h q (List.mem_cons_of_mem _ hq)) ?_
   obtain ⟨q,hq,e⟩:=he
   rcases List.mem_cons.1 hq with rfl|hq
   ·exact absurd e h1
   ·exact ⟨q,hq,e⟩
def xg (w:World) (B:Nat) (l:List (Int×Value)):Prop:=w.heap[B]?=some (.map (BA l 0).toArray l.length)
theorem xg.new (w:World):xg (w.alloc (.map #[] 0)) w.heap.size []:=ay w _
theorem xg.kept {w w':World} {B:Nat} {l:List (Int×Value)} {X:Nat→Prop} (h:xg w B l) (hk:Kept X w w') (hx:¬X B):xg w' B l :=
 (hk.block B (Array.getElem?_eq_some_iff.1 h).1 hx).trans h
abbrev tIM:TypeId:=239
theorem xg.ins {w:World} {B:Nat} {l:List (Int×Value)} (h:xg w B l) (k:Int) (v:Value) (hk:∀p∈l,p.1≠k) :
  ∃w',(Instr.mapUpdate tIM (.map (some B)) (.int .i64 k) v).run Tryz.prog w=.ok () w'∧xg w' B (l++[(k,v)])∧Kept (· = B) w w':=by
 have hkey:IsKey (.int .i64) (.int .i64 k):=by first|trivial|rfl|simp [IsKey]
 have h1:=CP k l 0 0 hk
 refine ⟨{w with heap:=w.heap.setIfInBounds B (.map ((BA l 0).toArray.push ⟨.int .i64 k,v,l.length⟩) (l.length+1))},?_,?_,?_⟩
 ·simp [Instr.mapUpdate,run_underlying Tryz.underlying239,Go.MapKept.run_getObj_map h,Go.MapKept.run_checkKey Tryz.underlying3 hkey,Go.MapKept.run_findKey Tryz.underlying3 h1,Go.MapKept.run_setObj_map _ h,Result.andThen]
 ·show (w.heap.setIfInBounds B _)[B]?=_
  rw [(heap_set h).1,Oc]
  simp
 ·exact ⟨rfl,rfl,rfl,by show w.heap.size≤(w.heap.setIfInBounds B _).size;simp,fun j hj hx=>(heap_set h).2 j hx⟩
theorem xg.look {w:World} {B:Nat} {l:List (Int×Value)} (h:xg w B l) (k:Int) (v:Value) (h1:∀p∈l,p.1=k→p.2=v) (h2:∃p∈l,p.1=k) :
  (Instr.lookup tIM (.map (some B)) (.int .i64 k) false).run Tryz.prog w=.ok v w:=by
 have hkey:IsKey (.int .i64) (.int .i64 k):=by first|trivial|rfl|simp [IsKey]
 obtain ⟨m,hf⟩:=CQ k v l 0 0 h1 h2
 simp [Instr.lookup,run_underlying Tryz.underlying239,Go.MapKept.run_getObj_map h,Go.MapKept.run_checkKey Tryz.underlying3 hkey,Go.MapKept.run_findKey Tryz.underlying3 hf,Result.andThen]
end Go.Proofs.YtodebjhalipefaaGreatDoor

namespace Go.Proofs.YtodebjhalipefaaGreatDoor
set_option linter.all false
open Go.RowKit
theorem adg {o:Option Int} {p q:Int} {w:World} (h:NP o p q) (hz:∀m,o=some m→eH m) (hg:jq w):Calls Tryz.prog 114 #[.int .i64 p,.int .i64 q] w (wX (o.map bY) w):=by
 rcases h with ⟨rfl,rfl⟩|⟨rfl,hq,_⟩
 ·exact Fv p w hg (hz p rfl)
 ·exact told_none p q hq w
theorem agP (w:World) (a b:aj):aX (w.alloc (.cells #[.string a,.string b] 9)) (· < (w.alloc (.cells #[.string a,.string b] 9)).heap.size) (some ⟨w.heap.size,0,none⟩) [a,b]:=by
 intro _
 refine ⟨_,0,rfl,by simp,fun i hi=>?_⟩
 have HB:=dI.new w 9 [.string a,.string b]
 rw [Nat.zero_add]
 match i,hi with
 | 0,_=>exact HB.cell rfl
 | 1,_=>exact HB.cell rfl
theorem Oh {w:World} {b o:Nat} {v:Value} (h:w.cell? ⟨b,o,none⟩=some v):b<w.heap.size:=by
 unfold World.cell? at h
 cases hb:w.heap[b]? with
 | none=>rw [hb] at h;cases h
 | some x=>exact (Array.getElem?_eq_some_iff.1 hb).1
theorem aaE {x y m:Int} (h:qV x y=some m):eH m:=Ag h
end Go.Proofs.YtodebjhalipefaaGreatDoor

namespace Go.Proofs.YtodebjhalipefaaGreatDoor
set_option linter.all false
open Go.RowKit
set_option maxRecDepth 100000
set_option maxHeartbeats 16000000
theorem RZ (a b:aj):sD 9 a b=(aS a).bind fun x=>(aS b).bind fun y=>(qV x y).map bY:=by
 unfold sD
 rw [if_neg (by decide)]
 rfl
theorem aeT (x y:Int) (w:World) (hx:eH x) (hy:eH y):Calls Tryz.prog 154 #[.int .i64 x,.int .i64 y] w (fun e w'=>∃p q,e=.returned (.tuple #[.int .i64 p,.int .i64 q])∧Kept aA w w'∧NP (qV x y) p q):=iH.np (Ur x y w hx hy)
theorem Uj (a b:aj) (w:World) (hg:jq w):Calls Tryz.prog 115 #[.int .i64 9,.string a,.string b] w (wX (sD 9 a b) w):=by
 have Rq:=fun (wx:World) (c:Nat) (al:Option Addr) (hk:Kept aA w wx) (hs:aX wx (· < wx.heap.size) al [a,b])=>J4 a b al c wx (hg.kept hk (fun h=>h) (fun h=>h)) hs
 have HG:Hid (∀wx,Kept aA w wx→jq wx):=fun wx hk=>hg.kept hk (fun h=>h) (fun h=>h)
 have HS:Hid (aX (w.alloc (.cells #[.string a,.string b] 9)) (· < (w.alloc (.cells #[.string a,.string b] 9)).heap.size) (some ⟨w.heap.size,0,none⟩) [a,b]):=agP w a b
 have K0:Hid (Kept aA w (w.alloc (.cells #[.string a,.string b] 9))):=(Kept.refl aA w).alloc _
 clear hg
 have hmm :=@run_makeMap Tryz.prog
 by_cases hz:aS a=none∨aS b=none
 ·have FIN:Hid (sD 9 a b=none):=by
   unfold Hid;rw [RZ]
   rcases hz with h|h
   ·rw [h];rfl
   ·rw [h];cases aS a<;>rfl
  have H:Hid (∀c,Calls Tryz.prog 153 #[.slice (some ⟨w.heap.size,0,none⟩) 2 c] (w.alloc (.cells #[.string a,.string b] 9)) (fun e w'=>e=.returned (.tuple #[.slice none 0 0,.bool false])∧Kept aA w w')):=fun c=>(Rq _ c _ K0.out HS.out).mono (by
   rintro e w' ⟨k,⟨_,he⟩|⟨x,y,_,_,_,hx,hy,_⟩⟩
   ·exact ⟨he,K0.out.trans k⟩
   ·rcases hz with h|h
    ·rw [h] at hx;cases hx
    ·rw [h] at hy;cases hy)
  clear hz Rq HS
  go_enter Tryz.func115, Tryz.ntmps115
  go_wp2_with (go_at_call 153;(with_reducible refine (H.out _).mono ?_);rintro e w2 ⟨rfl,hk⟩;have K2:=ah hk;clear hk)
  go_ret2
  exact ⟨by rw [FIN.out];rfl,K2.out⟩
 ·obtain ⟨x,hx⟩:∃x,aS a=some x:=Option.ne_none_iff_exists'.1 (fun h=>hz (.inl h))
  obtain ⟨y,hy⟩:∃y,aS b=some y:=Option.ne_none_iff_exists'.1 (fun h=>hz (.inr h))
  obtain ⟨o,ho⟩:∃o,o=qV x y:=⟨_,rfl⟩
  have hoz:∀m,o=some m→eH m:=fun m h=>aaE (by rw [←ho];exact h)
  obtain ⟨r,hr⟩:∃r,r=o.map bY:=⟨_,rfl⟩
  have FIN:Hid (sD 9 a b=r):=by unfold Hid;rw [hr,RZ,hx,hy,ho];rfl
  have H:Hid (∀c,Calls Tryz.prog 153 #[.slice (some ⟨w.heap.size,0,none⟩) 2 c] (w.alloc (.cells #[.string a,.string b] 9)) (fun e w'=>Kept aA w w'∧∃g o c,e=.returned (.tuple #[.slice (some ⟨g,o,none⟩) 2 c,.bool true])∧w'.cell? ⟨g,o,none⟩=some (.int .i64 x)∧w'.cell? ⟨g,o+1,none⟩=some (.int .i64 y))):=fun c=>(Rq _ c _ K0.out HS.out).mono (by
   rintro e w' ⟨k,⟨h,_⟩|⟨x',y',g,o,c,hx',hy',he,h1,h2⟩⟩
   ·exact absurd h hz
   ·rw [hx] at hx';rw [hy] at hy';cases hx';cases hy';exact ⟨K0.out.trans k,g,o,c,he,h1,h2⟩)
  have HF:Hid (∀wx,Calls Tryz.prog 154 #[.int .i64 x,.int .i64 y] wx (fun e w'=>∃p q,e=.returned (.tuple #[.int .i64 p,.int .i64 q])∧Kept aA wx w'∧NP o p q)):=fun wx=>by rw [ho];exact aeT x y wx (FI hx) (FI hy)
  have HT:Hid (∀p q wx,NP o p q→Kept aA w wx→Calls Tryz.prog 114 #[.int .i64 p,.int .i64 q] wx (wX r wx)):=fun p q wx hpq hk=>by rw [hr];exact adg hpq hoz (HG.out wx hk)
  clear hz Rq HS ho hoz hx hy hr
  go_enter Tryz.func115, Tryz.ntmps115
  go_upto_region 6 with (go_at_call 153;(with_reducible refine (H.out _).mono ?_);rintro e w2 ⟨hk,g9,o9,c9,rfl,u0,u1⟩;have K2:=ah hk;have U0:=ah u0;have U1:=ah u1;clear hk u0 u1)
  obtain ⟨wa,hua,Ma,ka⟩:=(xg.new w2).ins 9 (.func (.func 154) #[] #[]) (by simp)
  obtain ⟨wb,hub,Mb,kb⟩:=Ma.ins 10 (.func (.func 155) #[] #[]) (by simp)
  obtain ⟨wc,huc,Mc,kc⟩:=Mb.ins 11 (.func (.func 156) #[] #[]) (by simp)
  obtain ⟨wd,hud,Md,kd⟩:=Mc.ins 12 (.func (.func 157) #[] #[]) (by simp)
  obtain ⟨we,hue,Me,ke⟩:=Md.ins 13 (.func (.func 158) #[] #[]) (by simp)
  have hlk:=Me.look 9 (.func (.func 154) #[] #[]) (by simp) (by simp)
  have nx:∀y,y=w2.heap.size→aA y∨w2.heap.size≤y:=fun y hy=>.inr (Nat.le_of_eq hy.symm)
  have k7:Kept aA w2 we:=(((((Kept.refl aA w2).alloc _).step ka nx).step kb nx).step kc nx).step kd nx |>.step ke nx
  have c0:we.cell? ⟨g9,o9,none⟩=some (.int .i64 x):=(k7.cell (Oh U0.out) (fun h=>h)).trans U0.out
  have c1:we.cell? ⟨g9,o9+1,none⟩=some (.int .i64 y):=(k7.cell (Oh U1.out) (fun h=>h)).trans U1.out
  have K7:Hid (Kept aA w we):=K2.out.trans k7
  clear Ma Mb Mc Md Me ka kb kc kd ke k7 nx
  go_upto_region 7 with fail
  clear hua hub huc hud hue hlk
  go_wp2_with (go_region_with first
   | (go_at_call 154;(with_reducible refine (HF.out _).mono ?_);rintro e w3 ⟨p,q,rfl,k_,n_⟩;have KP:Hid (Kept aA w w3):=Kept.trans (by repeat (first|exact K7.out|refine Kept.drew ?_|refine Kept.drewN ?_ _)) k_;have HN:=ah n_;clear k_ n_)
   | (go_at_call 114;(with_reducible refine (HT.out _ _ _ HN.out KP.out).mono ?_);rintro e w4 ⟨rfl,k_⟩;have K4:Hid (Kept aA w w4):=KP.out.trans k_;clear k_))
  all_goals exact lT rfl rfl rfl ⟨by rw [FIN.out];rfl,K4.out⟩
end Go.Proofs.YtodebjhalipefaaGreatDoor

namespace Go.Proofs.YtodebjhalipefaaGreatDoor
set_option linter.all false
open Go.RowKit
set_option maxRecDepth 100000
set_option maxHeartbeats 8000000
def Gi (u:Nat):Int:=if u=0 then 0 else 1
theorem IK (N u:Nat) (w:World) (h:iV w N u):Calls Tryz.prog 16 #[.pointer (some ⟨N,0,none⟩)] w fun e w'=>e=.returned (.int .i64 (Gi u))∧w'=w:=ZC N u w h
def IL (u v:Nat) (s:List UInt8):Prop:=(s=[]∧v=u)∨(s≠[]∧Lib.decDigits u=(if v=0 then [] else Lib.decDigits v)++s)
theorem MI (u:Nat):Lib.decDigits u=(if u/10=0 then [] else Lib.decDigits (u/10))++[UInt8.ofNat (48+u % 10)]:=by
 by_cases h:u<10
 ·rw [Lib.decDigits,dif_pos h,if_pos (by omega),Nat.mod_eq_of_lt h];rfl
 ·conv=>lhs;rw [Lib.decDigits]
  rw [dif_neg h,if_neg (by omega)]
theorem IL.step {u v:Nat} {s:List UInt8} (h:IL u v s) (hc:0<v∨s=[]):IL u (v/10) (UInt8.ofNat (48+v % 10)::s):=by
 refine .inr ⟨by simp,?_⟩
 rcases h with ⟨rfl,rfl⟩|⟨h1,h2⟩
 ·exact MI v
 ·have hv:0<v:=hc.resolve_right h1
  rw [h2,if_neg (by omega)]
  conv=>lhs;rw [MI v]
  rw [List.append_assoc];rfl
theorem IL.len {u v:Nat} {s:List UInt8} (h:IL u v s) (hu:u<9223372036854775808):s.length≤20:=by
 rcases h with ⟨rfl,_⟩|⟨_,h2⟩
 ·simp
 ·have:=QX 19 u (by omega)
  have h3:=congrArg List.length h2
  rw [List.length_append] at h3;omega
theorem acJ (i:Nat) (h:i<10) (h2:i<(⟨#[48,49,50,51,52,53,54,55,56,57,97,98,99,100,101,102,103,104,105,106,107,108,109,110,111,112,113,114,115,116,117,118,119,120,121,122]⟩:aj).size):Utf8.encode ((((⟨#[48,49,50,51,52,53,54,55,56,57,97,98,99,100,101,102,103,104,105,106,107,108,109,110,111,112,113,114,115,116,117,118,119,120,121,122]⟩:aj)[i]'h2).toNat:Nat):Int)=⟨#[UInt8.ofNat (48+i)]⟩:=by
 rcases (show i=0∨i=1∨i=2∨i=3∨i=4∨i=5∨i=6∨i=7∨i=8∨i=9 by omega) with rfl|rfl|rfl|rfl|rfl|rfl|rfl|rfl|rfl|rfl<;>kernel_rfl
def agC (u:Nat) (w:World) (e:Ending) (w':World):Prop:=e=.returned (.tuple #[.string ⟨(Lib.decDigits u).toArray⟩,.int .i64 0])∧Kept aA w w'
theorem VW {s:List UInt8} {sb:aj} (h:sb=⟨s.toArray⟩):sb.toList.isEmpty=s.isEmpty:=by
 rw [h,ByteArray.toList_eq]
theorem ZF (u:Nat) (hu:u<9223372036854775808) (w:World):Calls Tryz.prog 11 #[.int .i64 u,.int .i64 10] w (agC u w):=by
 have e0:∀v,decide (Gi v<0)=false:=fun v=>au (by unfold Gi;split<;>decide)
 have E0:=ah (e0 u)
 clear e0
 have e1:=E0.out
 go_enter Tryz.func11, Tryz.ntmps11
 go_upto_region 7 with (first
  | (go_at_call 15;(refine (QV u hu w).mono ?_);rintro e w1 ⟨rfl,b1,k1⟩;have B1:=ah b1;have K1:=ah k1;clear b1 k1)
  | (go_at_call 16;(refine (IK _ u w1 B1.out).mono ?_);rintro e w' ⟨rfl,aH⟩;obtain rfl:=aH.symm)
  | (go_at_call 17;(refine (acG _ u w1 B1.out).mono ?_);rintro e w2 ⟨rfl,b2,k2⟩;have B2:=ah b2;have K2:Hid (Kept aA w w2):=K1.out.step k2 (fun y hy=>.inr (by have h:y=w.heap.size:=hy;omega));clear b2 k2))
 obtain ⟨X,hX⟩:∃x,x=w.heap.size:=⟨_,rfl⟩
 rw [←hX] at B2⊢
 have HX:Hid (w.heap.size≤X):=by rw [hX];exact Nat.le_refl _
 clear hX B1 K1 e1
 go_loopg [8] (u+1) (fun f sv wr=>∃(v:Nat) (s:List UInt8) (sb:aj),sv=.string sb∧Hid (sb=⟨s.toArray⟩)∧Hid (iV wr X v)∧v≤u∧Hid (IL u v s)∧Hid (f=v+(if s=[] then 1 else 0))∧Kept aA w wr)
 case atStart=>exact ⟨u,[],⟨#[]⟩,rfl,rfl,B2,Nat.le_refl _,.inl ⟨rfl,rfl⟩,rfl,K2.out⟩
 case round =>
  clear B2 K2
  obtain ⟨v,s,sb,rfl,hsb,hB,hv,hD,hf,hk⟩:=hrel
  have KR:=ah hk
  have hsl:=hD.out.len hu
  have hss:sb.size≤20:=by rw [hsb.out];show s.toArray.size≤20;simpa using hsl
  have hem:=VW hsb.out
  clear hk
  by_cases hc:0<v∨s=[]
  rotate_left
  ·have h0:v=0:=by omega
   have hs:s≠[]:=fun h=>hc (.inr h)
   have fin:Hid (Lib.decDigits u=s):=by
    rcases hD.out with ⟨h,_⟩|⟨_,h⟩
    ·exact absurd h hs
    ·unfold Hid;rw [h,if_pos h0];rfl
   have d1:decide (0<Gi v)=false:=au (by unfold Gi;rw [if_pos h0];decide)
   have d2:sb.toList.isEmpty=false:=by rw [hem];cases s with|nil=>exact absurd rfl hs|cons x r=>rfl
   clear hc h0 hs hem hD hf
   go_wp2_with (go_at_call 16;(refine (IK X v wr hB.out).mono ?_);rintro e w' ⟨rfl,aH⟩;obtain rfl:=aH.symm)
   go_ret2
   exact ⟨by rw [fin.out,←hsb.out];rfl,KR.out⟩
  ·have hD2:=ah (hD.out.step hc)
   have agD:Hid (v/10+0<gk):=by
    have h1:=hf.out
    unfold Hid
    by_cases hs:s=[]
    ·rw [if_pos hs] at h1;omega
    ·rw [if_neg hs] at h1;have:=hc.resolve_right hs;omega
   obtain ⟨w2,hw2⟩:∃w2,w2=wr.alloc (.cells #[.bool false,.slice none 0 0] 51):=⟨_,rfl⟩
   have HR2:Hid (um w2 wr.heap.size):=by rw [hw2];exact ⟨_,_,ay wr _⟩
   have K2:Hid (Kept aA wr w2):=by rw [hw2];exact (Kept.refl _ _).alloc _
   have VU:X≠wr.heap.size:=by have:=hB.out.blk.lt;omega
   have HW2:=ah hw2
   clear hw2
   obtain ⟨R,hR⟩:∃x,x=wr.heap.size:=⟨_,rfl⟩
   have HRR:=ah hR
   have hcnd:(0<v∧decide (0<Gi v)=true)∨(decide (0<Gi v)=false∧sb.toList.isEmpty=true):=by
    by_cases h0:v=0
    ·exact .inr ⟨au (by unfold Gi;rw [if_pos h0];decide),by rw [hem,hc.resolve_left (by omega)];rfl⟩
    ·exact .inl ⟨by omega,ak (by unfold Gi;rw [if_neg h0];decide)⟩
   clear hc hem hD hf hR
   obtain ⟨d,hd⟩:∃d,d=v % 10:=⟨_,rfl⟩
   have hd10:d<10:=by omega
   have HDD:=ah hd
   have HXR:=ah VU
   clear hd VU
   rcases hcnd with ⟨_,d1⟩|⟨d1,d2⟩
   all_goals
    go_upto_region 9 with (go_at_call 16;(refine (IK X v wr hB.out).mono ?_);rintro e w' ⟨rfl,aH⟩;obtain rfl:=aH.symm)
    rw [←HW2.out]
    clear HW2
    rw [←HRR.out] at HR2 HXR⊢
    have BL:=ah (KR.out.trans K2.out)
    have HRO:Hid (w.heap.size≤R):=by rw [HRR.out];exact KR.out.size
    have HX2:=ah (hB.out.quiet K2.out)
    clear hB
    go_upto_region 10 with (first
     | (go_at_call 15;(refine (QV 10 (by decide) w2).mono ?_);rintro e w3 ⟨rfl,b3,k3⟩;have B3:=ah b3;have K3:=ah k3;clear b3 k3)
     | (go_at_call 18;(refine (TF X w2.heap.size R v (by omega) w3 (HX2.out.quiet K3.out) B3.out (HR2.out.kept K3.out (fun h=>h)) HXR.out).mono ?_);rintro e w4 ⟨rfl,x4,r4,k4⟩;have X4:=ah x4;have R4:=ah r4;have K4:Hid (Kept aA w w4):=(BL.out.trans K3.out).step k4 (fun y hy=>.inr (by have h1:=HX.out;have h2:=HRO.out;rcases hy with rfl|rfl<;>omega));clear x4 r4 k4))
    rw [←HDD.out] at R4 hD2
    have HDX:=ah hD2.out
    clear HDD HR2 HX2 K2
    rcases (show d=0∨d=1∨d=2∨d=3∨d=4∨d=5∨d=6∨d=7∨d=8∨d=9 by omega) with rfl|rfl|rfl|rfl|rfl|rfl|rfl|rfl|rfl|rfl
    all_goals
     clear hd10
     have hen:=acJ
     go_wp2_with (go_at_call 19;(refine (VT R _ (by decide) w4 R4.out).mono ?_);rintro e w' ⟨rfl,aH⟩;obtain rfl:=aH.symm)
     go_roundg (v/10+0)
     case measure=>exact agD.out
     case rel=>exact ⟨v/10,_,_,rfl,by unfold Hid;rw [hsb.out];exact acK _ _,X4,by omega,hD2,by rw [if_neg (by simp)];rfl,K4.out⟩
end Go.Proofs.YtodebjhalipefaaGreatDoor

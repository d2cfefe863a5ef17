/-  -/
import Derived.Test.YtodebjhalipefaaGreatDoorLq4
import Derived.Test.YtodebjhalipefaaGreatDoorLq8
import Derived.Test.YtodebjhalipefaaGreatDoorLq7
import Derived.Test.YtodebjhalipefaaGreatDoorLq11
import Derived.Shelf.SlIter.Nil
import Derived.Shelf.SortM.Plain
import Derived.Shelf.SortM.SortNone
import Derived.Ground.GgzProg
import Derived.Ground.SlgmProg
import Derived.Shelf.SlGeneric
import Derived.Test.YtodebjhalipefaaGreatDoorLq28
import Derived.Test.YtodebjhalipefaaGreatDoorLq19
namespace Go.Proofs.YtodebjhalipefaaGreatDoor
set_option linter.all false
open Go.RowKit
section
variable {P:Program} {Q:Exit→Act→World→Prop}
theorem zY {J:(Nat→Bool)→(Nat→Value)→World→Prop} {X:Nat→Prop} {l:Nat→Bool} {i:Nat} {o:Oper} {x:Act} {w:World} {f:FuncId} {args:Array Value} {R:Nat→Value→World→Prop} (hr:(execOp x.eval o).run P w=.ok (.enter f args) w)
  (hc:Calls P f args w fun e w'=>∃v,e=.returned v∧R i v w'∧Kept X w w'∧∀l',(∀j,l' j=true↔j=i∨l j=true)→J l' (fun t=>(x.put o.dst v).tmps.getD t undef) w') :
  o.wp P x w (fun a' w'=>∃v,a'=x.put o.dst v∧(∀d,o.dst=some d→R i v w')∧Kept X w w'∧∀l',(∀j,l' j=true↔j=i∨l j=true)→J l' (fun t=>(x.put o.dst v).tmps.getD t undef) w') Q:=by
 unfold Oper.wp
 rw [hr]
 refine Calls.mono hc ?_
 rintro e w' ⟨v,rfl,hs,hk,hj⟩
 exact ⟨v,rfl,fun _ _=>hs,hk,hj⟩
end
def Jm (w:World) (u pv qv:Value):Prop:=∃g,u=.slice (some ⟨g,0,none⟩) 2 2∧g<w.heap.size∧w.cell? ⟨g,0,none⟩=some pv∧w.cell? ⟨g,1,none⟩=some qv
def Jo (w:World) (u:Value) (x:aj):Prop:=∃g,u=.slice (some ⟨g,0,none⟩) 1 1∧g<w.heap.size∧w.heap[g]?=some (.cells #[.string x] 9 (0,0))
theorem Jm.kept {w w':World} {u pv qv:Value} (h:Jm w u pv qv) (hk:Kept aA w w'):Jm w' u pv qv:=by
 obtain ⟨g,h1,h2,h3,h4⟩:=h
 exact ⟨g,h1,Nat.lt_of_lt_of_le h2 hk.size,(hk.cell h2 (fun h=>h)).trans h3,(hk.cell h2 (fun h=>h)).trans h4⟩
theorem Jo.kept {w w':World} {u:Value} {x:aj} (h:Jo w u x) (hk:Kept aA w w'):Jo w' u x:=by
 obtain ⟨g,h1,h2,h3⟩:=h
 exact ⟨g,h1,Nat.lt_of_lt_of_le h2 hk.size,(hk.block g h2 (fun h=>h)).trans h3⟩
theorem Ch.kept {w w':World} {B n:Nat} {xs:List Value} {u:Value} (h:Ch w B n xs u) (hk:Kept aA w w'):Ch w' B n xs u:=by
 obtain ⟨a,c,rfl,hw⟩:=h
 exact ⟨a,c,rfl,hw.kept hk (fun _ _ h=>h)⟩
theorem Ch.mono {w:World} {B B' n:Nat} {xs:List Value} {u:Value} (h:Ch w B n xs u) (hB:B'≤B):Ch w B' n xs u:=by
 obtain ⟨a,c,rfl,hw⟩:=h
 exact ⟨a,c,rfl,hw.mono hB⟩
structure qo (B n:Nat) (xs ys:List Value) (pv qv:Value) (e:aj) (b4 b5 b8 b9 b10:Bool) (Dc Df Dh uJ u13:Value) (w:World):Prop where
 base:B≤w.heap.size
 two:b9=false→b4=true→Jm w Dc pv qv
 ch:b9=false→b5=true→Ch w B n xs Df
 one:b9=false→b8=true→Jo w Dh e
 fin:b9=true→Ch w B (n+1) ys uJ
 set:b10=true→u13=uJ
section
variable {B n:Nat} {xs ys:List Value} {pv qv:Value} {e:aj} {b4 b5 b8 b9 b10:Bool} {Dc Df Dh uJ u13:Value} {w w':World}
theorem qo.op4 (h:qo B n xs ys pv qv e b4 b5 b8 false false Dc Df Dh uJ u13 w) {v:Value} (hk:Kept aA w w') (hv:Jm w' v pv qv):qo B n xs ys pv qv e true b5 b8 false false v Df Dh uJ u13 w' :=
 ⟨Nat.le_trans h.base hk.size,fun _ _=>hv,fun a b=>(h.ch a b).kept hk,fun a b=>(h.one a b).kept hk,fun h=>(by cases h),fun h=>(by cases h)⟩
theorem qo.op5 (h:qo B n xs ys pv qv e b4 b5 b8 false false Dc Df Dh uJ u13 w) {v:Value} (hk:Kept aA w w') (hv:Ch w' w.heap.size n xs v):qo B n xs ys pv qv e b4 true b8 false false Dc v Dh uJ u13 w' :=
 ⟨Nat.le_trans h.base hk.size,fun a b=>(h.two a b).kept hk,fun _ _=>hv.mono h.base,fun a b=>(h.one a b).kept hk,fun h=>(by cases h),fun h=>(by cases h)⟩
theorem qo.op8 (h:qo B n xs ys pv qv e b4 b5 b8 false false Dc Df Dh uJ u13 w) {v:Value} (hk:Kept aA w w') (hv:Jo w' v e):qo B n xs ys pv qv e b4 b5 true false false Dc Df v uJ u13 w' :=
 ⟨Nat.le_trans h.base hk.size,fun a b=>(h.two a b).kept hk,fun a b=>(h.ch a b).kept hk,fun _ _=>hv,fun h=>(by cases h),fun h=>(by cases h)⟩
theorem qo.op9 (h:qo B n xs ys pv qv e b4 b5 b8 false false Dc Df Dh uJ u13 w) {v:Value} (hk:w.heap.size≤w'.heap.size) (hv:Ch w' B (n+1) ys v):qo B n xs ys pv qv e b4 b5 b8 true false Dc Df Dh v u13 w' :=
 ⟨Nat.le_trans h.base hk,fun h=>(by cases h),fun h=>(by cases h),fun h=>(by cases h),fun _=>hv,fun h=>(by cases h)⟩
theorem qo.aiz (h:qo B n xs ys pv qv e b4 b5 b8 b9 b10 Dc Df Dh uJ u13 w):qo B n xs ys pv qv e b4 b5 b8 b9 true Dc Df Dh uJ uJ w :=
 ⟨h.base,h.two,h.ch,h.one,h.fin,fun _=>rfl⟩
end
def JO (B n:Nat) (xs ys:List Value) (pv qv:Value) (e:aj) (l:Nat→Bool) (f:Nat→Value) (w:World):Prop :=
 qo B n xs ys pv qv e (l 4) (l 5) (l 8) (l 9) (l 10) (f 95) (f 96) (f 99) (f 100) (f 13) w
section
variable {B n:Nat} {xs ys:List Value} {pv qv:Value} {e:aj} {l l':Nat→Bool} {x:Act} {w w':World} {v:Value}
theorem JO.other {i d:Nat} (h:JO B n xs ys pv qv e l (fun t=>x.tmps.getD t undef) w) (hl:∀j,l' j=true↔j=i∨l j=true) (hi:4≠i∧5≠i∧8≠i∧9≠i∧10≠i) (hd:d≠95∧d≠96∧d≠99∧d≠100∧d≠13) :
  JO B n xs ys pv qv e l' (fun t=>(x.put (some d) v).tmps.getD t undef) w:=by
 unfold JO at *
 rw [upd_ne hl 4 hi.1,upd_ne hl 5 hi.2.1,upd_ne hl 8 hi.2.2.1,upd_ne hl 9 hi.2.2.2.1,upd_ne hl 10 hi.2.2.2.2]
 dsimp only at *
 rw [fZ x d 95 v hd.1,fZ x d 96 v hd.2.1,fZ x d 99 v hd.2.2.1,fZ x d 100 v hd.2.2.2.1,fZ x d 13 v hd.2.2.2.2]
 exact h
theorem JO.aiA (h:JO B n xs ys pv qv e l (fun t=>x.tmps.getD t undef) w) (h9:l 9=false) (h10:l 10=false) (hs:101<x.tmps.size) (hk:Kept aA w w') (hv:Jm w' v pv qv) (hl:∀j,l' j=true↔j=4∨l j=true) :
  JO B n xs ys pv qv e l' (fun t=>(x.put (some 95) v).tmps.getD t undef) w':=by
 unfold JO at *
 rw [iq hl,upd_ne hl 5 (by decide),upd_ne hl 8 (by decide),upd_ne hl 9 (by decide),upd_ne hl 10 (by decide)]
 dsimp only at *
 rw [xu x 95 v (by omega),fZ x 95 96 v (by decide),fZ x 95 99 v (by decide),fZ x 95 100 v (by decide),fZ x 95 13 v (by decide)]
 rw [h9,h10] at h
 rw [h9,h10]
 exact h.op4 hk hv
theorem JO.Di (h:JO B n xs ys pv qv e l (fun t=>x.tmps.getD t undef) w) (h9:l 9=false) (h10:l 10=false) (hs:101<x.tmps.size) (hk:Kept aA w w') (hv:Ch w' w.heap.size n xs v) (hl:∀j,l' j=true↔j=5∨l j=true) :
  JO B n xs ys pv qv e l' (fun t=>(x.put (some 96) v).tmps.getD t undef) w':=by
 unfold JO at *
 rw [upd_ne hl 4 (by decide),iq hl,upd_ne hl 8 (by decide),upd_ne hl 9 (by decide),upd_ne hl 10 (by decide)]
 dsimp only at *
 rw [fZ x 96 95 v (by decide),xu x 96 v (by omega),fZ x 96 99 v (by decide),fZ x 96 100 v (by decide),fZ x 96 13 v (by decide)]
 rw [h9,h10] at h
 rw [h9,h10]
 exact h.op5 hk hv
theorem JO.aiB (h:JO B n xs ys pv qv e l (fun t=>x.tmps.getD t undef) w) (h9:l 9=false) (h10:l 10=false) (hs:101<x.tmps.size) (hk:Kept aA w w') (hv:Jo w' v e) (hl:∀j,l' j=true↔j=8∨l j=true) :
  JO B n xs ys pv qv e l' (fun t=>(x.put (some 99) v).tmps.getD t undef) w':=by
 unfold JO at *
 rw [upd_ne hl 4 (by decide),upd_ne hl 5 (by decide),iq hl,upd_ne hl 9 (by decide),upd_ne hl 10 (by decide)]
 dsimp only at *
 rw [fZ x 99 95 v (by decide),fZ x 99 96 v (by decide),xu x 99 v (by omega),fZ x 99 100 v (by decide),fZ x 99 13 v (by decide)]
 rw [h9,h10] at h
 rw [h9,h10]
 exact h.op8 hk hv
theorem JO.aiC (h:JO B n xs ys pv qv e l (fun t=>x.tmps.getD t undef) w) (h9:l 9=false) (h10:l 10=false) (hs:101<x.tmps.size) (hk:w.heap.size≤w'.heap.size) (hv:Ch w' B (n+1) ys v) (hl:∀j,l' j=true↔j=9∨l j=true) :
  JO B n xs ys pv qv e l' (fun t=>(x.put (some 100) v).tmps.getD t undef) w':=by
 unfold JO at *
 rw [upd_ne hl 4 (by decide),upd_ne hl 5 (by decide),upd_ne hl 8 (by decide),iq hl,upd_ne hl 10 (by decide)]
 dsimp only at *
 rw [fZ x 100 95 v (by decide),fZ x 100 96 v (by decide),fZ x 100 99 v (by decide),xu x 100 v (by omega),fZ x 100 13 v (by decide)]
 rw [h9,h10] at h
 rw [h10]
 exact h.op9 hk hv
theorem JO.agX (h:JO B n xs ys pv qv e l (fun t=>x.tmps.getD t undef) w) (hs:101<x.tmps.size) (hv:v=x.tmps.getD 100 undef) (hl:∀j,l' j=true↔j=10∨l j=true) :
  JO B n xs ys pv qv e l' (fun t=>(x.put (some 13) v).tmps.getD t undef) w:=by
 unfold JO at *
 rw [upd_ne hl 4 (by decide),upd_ne hl 5 (by decide),upd_ne hl 8 (by decide),upd_ne hl 9 (by decide),iq hl]
 dsimp only at *
 rw [fZ x 13 95 v (by decide),fZ x 13 96 v (by decide),fZ x 13 99 v (by decide),fZ x 13 100 v (by decide),xu x 13 v (by omega),hv]
 exact h.aiz
theorem JO.start (hB:B≤w.heap.size) (hl:∀i,i<11→l i=false) {f:Nat→Value}:JO B n xs ys pv qv e l f w:=by
 unfold JO
 rw [hl 4 (by decide),hl 5 (by decide),hl 8 (by decide),hl 9 (by decide),hl 10 (by decide)]
 exact ⟨hB,fun _ h=>(by cases h),fun _ h=>(by cases h),fun _ h=>(by cases h),fun h=>(by cases h),fun h=>(by cases h)⟩
theorem JO.eqv {f:Nat→Value} (h:JO B n xs ys pv qv e l f w) (hl:∀i,i<11→l i=l' i):JO B n xs ys pv qv e l' f w:=by
 unfold JO at *
 rw [←hl 4 (by decide),←hl 5 (by decide),←hl 8 (by decide),←hl 9 (by decide),←hl 10 (by decide)]
 exact h
end
theorem Jp (l:List aj) (x:aj):Lib.containsS (l.take l.length) x=true↔x∈l:=by
 rw [contains_iff l l.length (Nat.le_refl _) x,List.mem_iff_getElem]
theorem Yl {l:List aj} {x:aj} (h:x∉l):Lib.containsS (l.take l.length) x=false:=by
 cases hq:Lib.containsS (l.take l.length) x with
 | true=>exact absurd ((Jp l x).1 hq) h
 | false=>rfl
theorem Jq (s:aF):(own s).length=s.params.length+s.locals.length+1:=by unfold own;simp;omega
theorem adu (s:aF):(own s).map Value.string=(s.params.map Value.string++s.locals.map Value.string)++[.string s.name]:=by unfold own;simp
theorem Ch.strs {w:World} {B:Nat} {l:List aj} {v:Value} (h:Ch w B l.length (l.map Value.string) v):∃a c,v=.slice a l.length c∧l.length≤c∧aX w (fun b=>B≤b) a l:=by
 obtain ⟨a,c,rfl,hw⟩:=h
 rcases hw.cells with ⟨hv,h0⟩|⟨g,o,cap,hv,hB,_,hcap,_,hc⟩
 ·simp only [Value.slice.injEq] at hv
  exact ⟨a,c,rfl,by omega,fun h=>by omega⟩
 ·simp only [Value.slice.injEq] at hv
  obtain ⟨rfl,_,rfl⟩:=hv
  exact ⟨_,_,rfl,hcap,fun _=>⟨g,o,rfl,hB,fun i hi=>(hc i (.string l[i]) (by rw [List.getElem?_map,List.getElem?_eq_getElem hi];rfl)).1⟩⟩
theorem yC (s:aF):(jH s.kind).length=(iW s).length:=by
 unfold jH iW
 by_cases yD:s.kind=2∨s.kind=4
 ·rw [if_pos yD,if_pos yD];rfl
 ·rw [if_neg yD,if_neg yD]
  by_cases h35:s.kind=3∨s.kind=5
  ·rw [if_pos h35,if_pos h35];rfl
  ·rw [if_neg h35,if_neg h35];rfl
theorem aa7 {w:World} {S:Nat→Prop} {g:Nat} {a:gW} {s:aF} (hB:bT g a s w) (hz:ql s) (ho:vJ w S a s) (hg:S g) :
  ∀i (h:i<(iW s).length),aU w S g ((jH s.kind)[i]'(by rw [yC];exact h)) (iW s)[i]:=by
 obtain ⟨c0,c1,c2,c3,c4,c5,c6,c7,c8,c9,c10,c11,_⟩:=hB.cells
 have ht:aU w S g 2 s.target:=xW hg hz.target.z c2 c3 c4 c5 c6 ho.target
 have hv:aU w S g 7 s.value:=xW hg hz.value.z c7 c8 c9 c10 c11 ho.value
 unfold jH iW
 by_cases yD:s.kind=2∨s.kind=4
 ·simp only [if_pos yD]
  intro i h
  obtain rfl:i=0:=by simp at h;omega
  exact hv
 ·simp only [if_neg yD]
  by_cases h35:s.kind=3∨s.kind=5
  ·simp only [if_pos h35]
   intro i h
   rcases (show i=0∨i=1 by simp at h;omega) with rfl|rfl
   ·exact ht
   ·exact hv
  ·simp only [if_neg h35]
   intro i h
   simp at h
end Go.Proofs.YtodebjhalipefaaGreatDoor

namespace Go.Proofs.YtodebjhalipefaaGreatDoor
set_option linter.all false
open Go.RowKit Go.Maps Go.Sort Go.Shelf
set_option maxHeartbeats 1000000
def Ew:Go.Shelf.Ren:=⟨fun|7=>89|10=>130|n=>n,fun|23=>110|26=>9|3=>9|28=>169|0=>0|27=>168|33=>137|4=>4|n=>n,fun|n=>n⟩
theorem RV:Go.Proofs.SlLaysZ.n7 Tryz.prog Ew:={
 mixed:=by kernel_rfl
 f7:=⟨Tryz.f89.name,by decide,Tryz.func89.trans (congrArg some (by kernel_rfl))⟩
 f10:=⟨Tryz.f130.name,by decide,Tryz.func130.trans (congrArg some (by kernel_rfl))⟩
 t0:=Tryz.underlying0
 a0:=Tryz.isAgg0
 z0:=Tryz.sizeOf0
 v0:=Tryz.zeroValue0
 t4:=Tryz.underlying4
 a4:=Tryz.isAgg4
 z4:=Tryz.sizeOf4
 v4:=Tryz.zeroValue4
 t23:=Tryz.underlying110
 a23:=Tryz.isAgg110
 z23:=Tryz.sizeOf110
 v23:=Tryz.zeroValue110
 t26:=Tryz.underlying9
 a26:=Tryz.isAgg9
 z26:=Tryz.sizeOf9
 v26:=Tryz.zeroValue9
 t27:=Tryz.underlying168
 a27:=Tryz.isAgg168
 z27:=Tryz.sizeOf168
 v27:=Tryz.zeroValue168
 t28:=Tryz.underlying169
 a28:=Tryz.isAgg169
 z28:=Tryz.sizeOf169
 v28:=Tryz.zeroValue169
 t33:=Tryz.underlying137
 a33:=Tryz.isAgg137
 z33:=Tryz.sizeOf137
 v33:=Tryz.zeroValue137}
def Bz:Go.Shelf.Ren:=⟨fun|6=>88|8=>128|9=>129|11=>188|13=>132|12=>189|23=>198|24=>199|14=>232|15=>233|16=>234|17=>235|18=>236|19=>237|20=>238|21=>239|22=>240|25=>273|26=>242|27=>243|28=>274|29=>275|30=>133|31=>296|n=>n,fun|26=>9|28=>169|24=>22|0=>0|3=>3|37=>124|48=>121|50=>89|4=>4|40=>276|39=>275|45=>144|5=>5|9=>9|51=>329|55=>332|57=>358|58=>359|33=>137|n=>n,fun|n=>n⟩
theorem Xp:Go.Proofs.SlLaysZ.n6 Tryz.prog Bz:={
 mixed:=by kernel_rfl
 f6:=⟨Tryz.f88.name,by decide,Tryz.func88.trans (congrArg some (by kernel_rfl))⟩
 f8:=⟨Tryz.f128.name,by decide,Tryz.func128.trans (congrArg some (by kernel_rfl))⟩
 f11:=⟨Tryz.f188.name,by decide,Tryz.func188.trans (congrArg some (by kernel_rfl))⟩
 t0:=Tryz.underlying0
 a0:=Tryz.isAgg0
 z0:=Tryz.sizeOf0
 v0:=Tryz.zeroValue0
 t24:=Tryz.underlying22
 a24:=Tryz.isAgg22
 z24:=Tryz.sizeOf22
 v24:=Tryz.zeroValue22
 t26:=Tryz.underlying9
 a26:=Tryz.isAgg9
 z26:=Tryz.sizeOf9
 v26:=Tryz.zeroValue9
 t28:=Tryz.underlying169
 a28:=Tryz.isAgg169
 z28:=Tryz.sizeOf169
 v28:=Tryz.zeroValue169
 i26:=by kernel_rfl}
def Qx:Go.Shelf.Ren:=⟨fun|6=>129|8=>132|9=>189|19=>198|20=>199|21=>232|22=>233|23=>234|24=>235|25=>236|26=>237|27=>238|28=>239|29=>240|36=>273|31=>242|32=>243|37=>274|38=>275|39=>133|41=>296|n=>n,fun|27=>22|29=>9|3=>3|32=>124|26=>22|0=>0|44=>121|46=>89|4=>4|36=>276|35=>275|41=>144|5=>5|9=>9|53=>329|57=>332|63=>358|64=>359|n=>n,fun|n=>n⟩
theorem RY:Go.Proofs.SlLaysM.n6 Tryz.prog Qx:={
 mixed:=by kernel_rfl
 f6:=⟨Tryz.f129.name,by decide,Tryz.func129.trans (congrArg some (by kernel_rfl))⟩
 f8:=Tryz.func132.trans (congrArg some (by kernel_rfl))
 f9:=⟨Tryz.f189.name,by decide,Tryz.func189.trans (congrArg some (by kernel_rfl))⟩
 f19:=Tryz.func198.trans (congrArg some (by kernel_rfl))
 f20:=Tryz.func199.trans (congrArg some (by kernel_rfl))
 f21:=⟨Tryz.f232.name,by decide,Tryz.func232.trans (congrArg some (by kernel_rfl))⟩
 f22:=⟨Tryz.f233.name,by decide,Tryz.func233.trans (congrArg some (by kernel_rfl))⟩
 f23:=⟨Tryz.f234.name,by decide,Tryz.func234.trans (congrArg some (by kernel_rfl))⟩
 f24:=⟨Tryz.f235.name,by decide,Tryz.func235.trans (congrArg some (by kernel_rfl))⟩
 f25:=⟨Tryz.f236.name,by decide,Tryz.func236.trans (congrArg some (by kernel_rfl))⟩
 f26:=⟨Tryz.f237.name,by decide,Tryz.func237.trans (congrArg some (by kernel_rfl))⟩
 f27:=⟨Tryz.f238.name,by decide,Tryz.func238.trans (congrArg some (by kernel_rfl))⟩
 f28:=⟨Tryz.f239.name,by decide,Tryz.func239.trans (congrArg some (by kernel_rfl))⟩
 f29:=⟨Tryz.f240.name,by decide,Tryz.func240.trans (congrArg some (by kernel_rfl))⟩
 f31:=Tryz.func242.trans (congrArg some (by kernel_rfl))
 f32:=Tryz.func243.trans (congrArg some (by kernel_rfl))
 f36:=⟨Tryz.f273.name,by decide,Tryz.func273.trans (congrArg some (by kernel_rfl))⟩
 f37:=⟨Tryz.f274.name,by decide,Tryz.func274.trans (congrArg some (by kernel_rfl))⟩
 f38:=⟨Tryz.f275.name,by decide,Tryz.func275.trans (congrArg some (by kernel_rfl))⟩
 f39:=⟨Tryz.f133.name,by decide,Tryz.func133.trans (congrArg some (by kernel_rfl))⟩
 f41:=⟨Tryz.f296.name,by decide,Tryz.func296.trans (congrArg some (by kernel_rfl))⟩
 t0:=Tryz.underlying0
 a0:=Tryz.isAgg0
 z0:=Tryz.sizeOf0
 v0:=Tryz.zeroValue0
 t3:=Tryz.underlying3
 a3:=Tryz.isAgg3
 z3:=Tryz.sizeOf3
 v3:=Tryz.zeroValue3
 t4:=Tryz.underlying4
 a4:=Tryz.isAgg4
 z4:=Tryz.sizeOf4
 v4:=Tryz.zeroValue4
 t5:=Tryz.underlying5
 a5:=Tryz.isAgg5
 z5:=Tryz.sizeOf5
 v5:=Tryz.zeroValue5
 t9:=Tryz.underlying9
 a9:=Tryz.isAgg9
 z9:=Tryz.sizeOf9
 v9:=Tryz.zeroValue9
 t26:=Tryz.underlying22
 a26:=Tryz.isAgg22
 z26:=Tryz.sizeOf22
 v26:=Tryz.zeroValue22
 t27:=Tryz.underlying22
 a27:=Tryz.isAgg22
 z27:=Tryz.sizeOf22
 v27:=Tryz.zeroValue22
 t29:=Tryz.underlying9
 a29:=Tryz.isAgg9
 z29:=Tryz.sizeOf9
 v29:=Tryz.zeroValue9
 t32:=Tryz.underlying124
 a32:=Tryz.isAgg124
 z32:=Tryz.sizeOf124
 v32:=Tryz.zeroValue124
 t35:=Tryz.underlying275
 a35:=Tryz.isAgg275
 z35:=Tryz.sizeOf275
 v35:=Tryz.zeroValue275
 t36:=Tryz.underlying276
 a36:=Tryz.isAgg276
 z36:=Tryz.sizeOf276
 v36:=Tryz.zeroValue276
 t41:=Tryz.underlying144
 a41:=Tryz.isAgg144
 z41:=Tryz.sizeOf144
 v41:=Tryz.zeroValue144
 t44:=Tryz.underlying121
 a44:=Tryz.isAgg121
 z44:=Tryz.sizeOf121
 v44:=Tryz.zeroValue121
 t46:=Tryz.underlying89
 a46:=Tryz.isAgg89
 z46:=Tryz.sizeOf89
 v46:=Tryz.zeroValue89
 t53:=Tryz.underlying329
 a53:=Tryz.isAgg329
 z53:=Tryz.sizeOf329
 v53:=Tryz.zeroValue329
 t57:=Tryz.underlying332
 a57:=Tryz.isAgg332
 z57:=Tryz.sizeOf332
 v57:=Tryz.zeroValue332
 t63:=Tryz.underlying358
 a63:=Tryz.isAgg358
 z63:=Tryz.sizeOf358
 v63:=Tryz.zeroValue358
 t64:=Tryz.underlying359
 a64:=Tryz.isAgg359
 z64:=Tryz.sizeOf359
 v64:=Tryz.zeroValue359}
theorem aaD (m:Nat):AnyZ.SortsIn Tryz.prog Bz Fence.wide m :=
 ⟨fun blk off cap ss W hH hblk hsz=>callsIn_wide.2 (AnyM.slices_Sort_string RY blk off cap ss W hH hblk hsz),fun p cap W=>callsIn_wide.2 (AnyM.slices_Sort_string_none RY p cap W)⟩
theorem ZV (mb:Option Nat) (W:World):Calls Tryz.prog 89 #[.map mb] W fun e w'=>e=.returned (.func (.func 130) #[] #[.pointer (some ⟨W.heap.size,0,none⟩)])∧w'=W.alloc (.cells #[.map mb] 110) :=
 callsIn_wide.1 (AnyZ.keys_in RV Fence.wide 5 trivial rfl mb W)
theorem Uo (ss:List (List UInt8)):ss.map encStr=(ss.map fun l=>(⟨l.toArray⟩:aj)).map Value.string:=by
 rw [List.map_map];rfl
theorem Ja (w:World) (B:Nat) (l:List (aj×aj)) (h:iT w B l none) (hl:l.length≤1048576) :
  Calls Tryz.prog 88 #[.func (.func 130) #[] #[.pointer (some ⟨w.heap.size,0,none⟩)]] (w.alloc (.cells #[.map (some B)] 110)) fun e w'=>∃(v:Value) (ks:List aj),e=.returned v∧
   aP w' w.heap.size 9 1 v ks.length (ks.map Value.string)∧(∀k∈ks,k.size≤maxLen)∧ks.length≤l.length∧Kept aA (w.alloc (.cells #[.map (some B)] 110)) w':=by
 obtain ⟨D0,hown,hmap,hD⟩:=h
 have hbl:=hown.lt
 have hsz:Maps.size D0≤l.length:=hown.size_le
 have hseq:SeqGives Fence.wide 2 Tryz.prog 130 #[.pointer (some ⟨w.heap.size,0,none⟩)] encStr (fun ss=>ss.Perm (strKeys D0)) (Maps.size D0) (w.alloc (.cells #[.map (some B)] 110)) :=
  AnyZ.keys_gives (ρ:=Ew) {RV with} Fence.wide _ trivial rfl (by omega) w.heap.size B l.length D0 _ (by simp) (by simp) (by
   obtain ⟨es,clock,hb,Ft,hs,hD⟩:=hown
   exact ⟨es,clock,(Below.heap_alloc _ _ B hbl).trans hb,Ft,hs,hD⟩)
 have hc:=callsIn_wide.1 (AnyZ.sorted_in Xp Fence.wide 5 trivial trivial trivial trivial rfl (by omega) (aaD _) (enters_of Tryz.func129 (by kernel_rfl) rfl) 130 #[.pointer (some ⟨w.heap.size,0,none⟩)] trivial (enters_of Tryz.func130 (by kernel_rfl) rfl) _ _ (show Maps.size D0≤maxLen by unfold maxLen;omega) (show Maps.size D0*16≤_ by omega) _ hseq)
 refine hc.mono ?_
 rintro e w' ⟨v,ss,rfl,hp,hrow,_,hb⟩
 refine ⟨v,(ss.mergeSort (fun x y=>decide (x≤y))).map fun l=>(⟨l.toArray⟩:aj),rfl,?_,fun k hk=>?_,?_,⟨hb.os,hb.tape,hb.output,hb.size,fun k hk _=>hb.block k hk⟩⟩
 ·rw [Uo] at hrow
  have h1:aP w' w.heap.size 9 1 v ss.length (((ss.mergeSort (fun x y=>decide (x≤y))).map fun l=>(⟨l.toArray⟩:aj)).map Value.string):=(aP.aeS hrow).mono (B':=w.heap.size) (by simp)
  have e:((ss.mergeSort (fun x y=>decide (x≤y))).map fun l=>(⟨l.toArray⟩:aj)).length=ss.length:=by simp
  rw [e];exact h1
 ·obtain ⟨x,hx,rfl⟩:=List.mem_map.1 hk
  have hx:x∈ss:=(List.mergeSort_perm _ _).mem_iff.1 hx
  have:=strKeys_le hown Tryz.underlying9 x (hp.mem_iff.1 hx)
  show (⟨x.toArray⟩:aj).size≤maxLen
  have e:(⟨x.toArray⟩:aj).size=x.length:=by show x.toArray.size=_;simp
  omega
 ·have h1:ss.length=Maps.size D0:=by
   rw [hp.length_eq]
   obtain ⟨es,rfl⟩:=hmap
   simp [strKeys,Maps.size]
  simp;omega
end Go.Proofs.YtodebjhalipefaaGreatDoor

namespace Go.Proofs.YtodebjhalipefaaGreatDoor
set_option linter.all false
open Go.RowKit
theorem vG {k:Int} {en:Nat} {l r:List aC} {t:aC} (h:dZ k en l=.ok (t,r)):r.length+1=l.length:=by
 cases l with
 | nil=>cases h
 | cons u v =>
  simp only [dZ] at h
  split at h
  ·simp only [Except.ok.injEq,Prod.mk.injEq] at h;obtain ⟨rfl,rfl⟩:=h;rfl
  ·cases h
theorem jQ {en:Nat} {l r:List aC} {x:aj} (h:dL en l=.ok (x,r)):r.length+1=l.length:=by
 unfold dL at h
 split at h
 ·cases h
 ·next t r' hh =>
  split at h
  ·cases h
  ·simp only [Except.ok.injEq,Prod.mk.injEq] at h;obtain ⟨rfl,rfl⟩:=h;exact vG hh
theorem gU {x:aj} {l:List aC} (h:aG x l=true):l.tail.length+1=l.length:=by
 cases l with
 | nil=>cases h
 | cons u v=>rfl
theorem mJ {x:aj} {en:Nat} {l r:List aC} (h:dW x en l=.ok r):r.length+1=l.length:=by
 unfold dW at h
 split at h
 ·next hs=>simp only [Except.ok.injEq] at h;subst h;exact gU hs
 ·cases h
theorem Pm {en:Nat} {l r:List aC} {p:aB} (h:qx en l=.ok (p,r)):r.length+1=l.length:=by
 unfold qx at h
 split at h<;>cases h
def ny (f:List aC→aZ aB):Prop:=∀l y r,f l=.ok (y,r)→sizeT y+r.length≤l.length
theorem ny.shr {f:List aC→aZ aB} (h:ny f):Shr f:=fun l y r hl=>by have:=h l y r hl;omega
theorem EJ (k:Int) (x:aB):sizeT (node1 k x)=1+sizeT x:=by simp [node1,sizeT,bK]
theorem QG (k:Int) (x y:aB):sizeT (node2 k x y)=1+(sizeT x+sizeT y):=by simp [node2,sizeT,bK]
theorem Hy (l:List aB) (x:aB):bK (l++[x])=bK l+sizeT x:=by
 induction l with
 | nil=>simp [bK]
 | cons p r ih=>simp only [List.cons_append,bK,ih];omega
theorem QH {rC:Nat} {sub:List aC→aZ aB} (h:ny sub):∀(f:Nat) (x:aB) (l:List aC) (y:aB) (r:List aC),nY rC sub f x l=.ok (y,r)→sizeT y+r.length≤sizeT x+l.length:=by
 intro f
 induction f with
 | zero=>intro x l y r hc;simp only [nY,Except.ok.injEq,Prod.mk.injEq] at hc;obtain ⟨rfl,rfl⟩:=hc;omega
 | succ f ih =>
  intro x l y r hc
  rw [nY] at hc
  split at hc
  ·next ho =>
   split at hc
   ·cases hc
   ·next z r1 hz =>
    have h1:=ih _ _ _ _ hc
    have h2:=h _ _ _ hz
    rw [QG] at h1
    cases l with
    | nil=>simp [opAt] at ho
    | cons t l2=>simp only [List.tail_cons] at h2;rw [List.length_cons];omega
  ·simp only [Except.ok.injEq,Prod.mk.injEq] at hc;obtain ⟨rfl,rfl⟩:=hc;omega
theorem rV {rC:Nat} {sub:List aC→aZ aB} (h:ny sub):ny (oG rC sub):=by
 intro l y r hl
 unfold oG at hl
 split at hl
 ·cases hl
 ·next z r1 hz =>
  have h1:=QH h _ _ _ _ _ hl
  have h2:=h _ _ _ hz
  omega
theorem Dy {un:List aC→aZ aB} (h:ny un):ny (JA un):=rV (rV (rV h))
theorem Vp {ex:List aC→aZ aB} {en:Nat} (h:ny ex):∀(f:Nat) (ks:List aB) (l:List aC) (Dx:List aB) (r:List aC),lg ex en f ks l=.ok (Dx,r)→bK Dx+r.length≤bK ks+l.length:=by
 intro f
 induction f with
 | zero=>intro x l y r hc;simp only [lg,Except.ok.injEq,Prod.mk.injEq] at hc;obtain ⟨rfl,rfl⟩:=hc;omega
 | succ f ih =>
  intro ks l Dx r hc
  rw [lg] at hc
  split at hc
  ·cases hc
  ·split at hc
   ·cases hc
   ·next x r1 hx =>
    have h2:=h _ _ _ hx
    split at hc
    ·next hs =>
     simp only [Except.ok.injEq,Prod.mk.injEq] at hc;obtain ⟨rfl,rfl⟩:=hc
     have:=gU hs
     rw [Hy];omega
    ·split at hc
     ·cases hc
     ·next r2 hn =>
      have h1:=ih _ _ _ _ hc
      have:=mJ hn
      rw [Hy] at h1;omega
theorem wL {ex pr:List aC→aZ aB} {en:Nat} (he:ny ex) (hp:ny pr):ny (bg ex pr en):=by
 intro l y r hl
 unfold bg at hl
 split at hl
 ·next hs =>
  have:=gU hs
  split at hl
  ·cases hl
  ·next x r1 hx =>
   have h2:=he _ _ _ hx
   split at hl
   ·cases hl
   ·next r2 hn =>
    have:=mJ hn
    simp only [Except.ok.injEq,Prod.mk.injEq] at hl;obtain ⟨rfl,rfl⟩:=hl;omega
 ·split at hl
  ·next hs =>
   have:=gU hs
   split at hl
   ·cases hl
   ·next x r1 hx =>
    have h2:=hp _ _ _ hx
    simp only [Except.ok.injEq,Prod.mk.injEq] at hl;obtain ⟨rfl,rfl⟩:=hl;rw [EJ];omega
  ·split at hl
   ·next t r1 ht =>
    have:=vG ht
    simp only [Except.ok.injEq,Prod.mk.injEq] at hl;obtain ⟨rfl,rfl⟩:=hl;simp only [sizeT,bK];omega
   ·split at hl
    ·next t r1 ht =>
     have:=vG ht
     unfold FX at hl
     split at hl
     ·cases hl
     ·split at hl
      ·cases hl
      ·simp only [Except.ok.injEq,Prod.mk.injEq] at hl;obtain ⟨rfl,rfl⟩:=hl;simp only [sizeT,bK];omega
    ·split at hl
     ·cases hl
     ·next nm r1 hn =>
      have:=jQ hn
      split at hl
      ·next hs =>
       have:=gU hs
       split at hl
       ·cases hl
       ·next x r2 hx =>
        have h2:=he _ _ _ hx
        split at hl
        ·cases hl
        ·next r3 hn3 =>
         have:=mJ hn3
         simp only [Except.ok.injEq,Prod.mk.injEq] at hl;obtain ⟨rfl,rfl⟩:=hl;simp only [sizeT,bK];omega
      ·split at hl
       ·next hs =>
        have:=gU hs
        split at hl
        ·next hs2 =>
         have:=gU hs2
         simp only [Except.ok.injEq,Prod.mk.injEq] at hl;obtain ⟨rfl,rfl⟩:=hl;simp only [sizeT,bK];omega
        ·split at hl
         ·cases hl
         ·next ks r2 hk =>
          have h2:=Vp he _ _ _ _ _ hk
          simp only [Except.ok.injEq,Prod.mk.injEq] at hl;obtain ⟨rfl,rfl⟩:=hl;simp only [sizeT,bK] at *;omega
       ·simp only [Except.ok.injEq,Prod.mk.injEq] at hl;obtain ⟨rfl,rfl⟩:=hl;simp only [sizeT,bK];omega
theorem Pn {un pr:List aC→aZ aB} (hu:ny un) (hp:ny pr):ny (yJ un pr):=by
 intro l y r hl
 unfold yJ at hl
 split at hl
 ·next hs =>
  have:=gU hs
  split at hl
  ·cases hl
  ·next x r1 hx =>
   have h2:=hu _ _ _ hx
   simp only [Except.ok.injEq,Prod.mk.injEq] at hl;obtain ⟨rfl,rfl⟩:=hl;rw [EJ];omega
 ·exact hp _ _ _ hl
theorem wM (en:Nat):∀k,ny (tJ en k).1∧ny (tJ en k).2
 | 0=>by
  have e:ny (fun l=>.error (4,dJ en l)):=fun l y r h=>by cases h
  exact ⟨Pn e (wL e e),wL e e⟩
 | k+1=>by
  obtain ⟨h1,h2⟩:=wM en k
  exact ⟨Pn h1 (wL (Dy h1) h2),wL (Dy h1) h2⟩
theorem tK (en:Nat):∀k,ny (uY en k)
 | 0=>by intro l y r h;rw [uY] at h;cases h
 | k+1=>by intro l y r h;rw [uY] at h;exact Dy (wM en k).1 l y r h
theorem KJ {N T en d:Nat} {ex pr:List aC→aZ aB} (HE:FU N T en d ex) (HD:(d=400∧pr=fun l=>.error (4,dJ en l))∨(d<400∧Jy N T en (d+1) pr)):Jy N T en d (bg ex pr en):=by
 intro l w h
 cases l with
 | nil=>exact YE h
 | cons t r =>
  cases hs1:aG (bs [40]) (t::r) with
  | true=>exact YB HE h hs1
  | false =>
   cases hs2:aG (bs [36]) (t::r) with
   | true =>
    rcases HD with ⟨hd,rfl⟩|⟨hd,HP⟩
    ·exact Jv (pr:=fun l=>.error (4,dJ en l)) h hd hs2
    ·exact Jw hd HP h hs2
   | false =>
    by_cases h3:t.kind=3
    ·exact Vj h h3
    ·by_cases h2:t.kind=2
     ·exact YH h h2
     ·cases hn:dL en (t::r) with
      | error e0=>exact Jz h ⟨h3,h2⟩ hs1 hs2 hn
      | ok x =>
       obtain ⟨nm,r1⟩:=x
       cases hs3:aG (bs [60]) r1 with
       | true=>exact Vl h ⟨h3,h2⟩ hs1 hs2 hn HE hs3
       | false =>
        cases hs4:aG (bs [40]) r1 with
        | false=>exact Vk h ⟨h3,h2⟩ hs1 hs2 hn hs3 hs4
        | true =>
         cases hs5:aG (bs [41]) r1.tail with
         | true=>exact QF h ⟨h3,h2⟩ hs1 hs2 hn hs3 hs4 hs5
         | false=>exact Vm h ⟨h3,h2⟩ hs1 hs2 hn hs3 hs4 HE hs5
theorem SL {N T en d:Nat} {un pr:List aC→aZ aB} (HP:Jy N T en d pr) (HD:(d=400∧un=fun l=>.error (4,dJ en l))∨(d<400∧JB N T en (d+1) un)):JB N T en d (yJ un pr):=by
 intro l w h
 cases hs:aG (bs [45]) l with
 | false=>exact YI HP h hs
 | true =>
  rcases HD with ⟨rfl,rfl⟩|⟨hd,HU⟩
  ·exact abn h hs
  ·exact abo hd HU h hs
theorem Po {N T en d:Nat} {un:List aC→aZ aB} (HU:JB N T en d un) (hm:ny un):Hl N T en d 0 (JA un) :=
 Du (by omega) (Du (by omega) (Du (by omega) (YJ HU) hm.shr) (rV hm).shr) (rV (rV hm)).shr
theorem Pq (N T en:Nat):∀k,k≤400→JB N T en (400-k) (tJ en k).1∧Jy N T en (400-k) (tJ en k).2
 | 0,_=>by
  have HE:FU N T en 400 (fun l=>.error (4,dJ en l)):=fun l w h=>Vq h
  have HP:=KJ HE (.inl ⟨rfl,rfl⟩)
  exact ⟨SL HP (.inl ⟨rfl,rfl⟩),HP⟩
 | k+1,hk=>by
  obtain ⟨h1,h2⟩:=Pq N T en k (by omega)
  have e:400-k=400-(k+1)+1:=by omega
  rw [e] at h1 h2
  have HB:=Po h1 (wM en k).1
  have HE:FU N T en (400-(k+1)) (JA (tJ en k).1):=fun l w h=>Hz (by omega) HB h
  have HP:=KJ HE (.inr ⟨by omega,h2⟩)
  exact ⟨SL HP (.inr ⟨by omega,h1⟩),HP⟩
theorem Dz (N T en:Nat):FU N T en 0 (uY en 400):=by
 intro l w h
 have HB:=Po (Pq N T en 399 (by omega)).1 (wM en 399).1
 exact Hz (by omega) HB h
end Go.Proofs.YtodebjhalipefaaGreatDoor

namespace Go.Proofs.YtodebjhalipefaaGreatDoor
set_option linter.all false
open Go.RowKit
set_option maxRecDepth 100000
set_option maxHeartbeats 8000000
def oC (l:List aj):List Value:=l.map Value.string
theorem Oi:(Tryz.prog.info? 9).map (fun i=>(i.zero,i.size,i.bytes))=some (some (.string ⟨#[]⟩),1,16):=by kernel_rfl
theorem Kq (l:List aj) (x:aj):oC l++[.string x]=oC (l++[x]):=by simp [oC]
theorem yK {ops:Array Oper} {rest:List Oper} {o:Oper} {a:Act} {Q:Exit→Act→World→Prop} {w:World} (hgd:o.guard=none) (s x:Operand)
  (ho:o.op=.call {callee:=.builtin .append,args:=#[s,x],argTypes:=#[22,22]})
  (v:Value) (n:Nat) (l:List aj) (t:aj) (hnd:n=l.length) (hs:a.eval s=v) (B:Nat) (hown:aP w B 9 1 v n (oC l)) (g:Nat) (hx:a.eval x=.slice (some ⟨g,0,none⟩) 1 1)
  (hg:w.heap[g]?=some (.cells #[.string t] 9 (0,0))) (hn:l.length≤1000000) (hB:B≤w.heap.size)
  (h:∀a' c' n' w',Hid (n'=(l++[t]).length)→aP w' B 9 1 (.slice a' n' c') n' (oC (l++[t]))→Kept (fun b=>B≤b) w w'→wpList Tryz.prog ops Q rest (a.put o.dst (.slice a' n' c')) w') :
  wpList Tryz.prog ops Q (o::rest) a w:=by
 obtain ⟨i0,hi0,hz0,hz1,hz2⟩:=info_parts Oi
 have hsr:Src Tryz.prog 1 22 (.slice (some ⟨g,0,none⟩) 1 1) 1 [.string t] w :=
  Src.ofSlice _ Tryz.underlying22 _ _ _ _ rfl (World.news_of_block (fr:=(0,0)) (cs:=#[.string t]) hg) (by intro u hu;simp at hu;subst hu;rfl)
 refine dw w hgd s x _ _ ho B 9 i0 (.string ⟨#[]⟩) 1 16 Tryz.underlying22 hi0 hz0 hz1 hz2 rfl v n (oC l) hs hown _ 1 _ hx hsr (by unfold maxLen;omega) (by omega) hB ?_
 intro a' c' w' hW hgr _
 rw [Kq] at hW
 exact h a' c' _ w' (by unfold Hid;rw [List.length_append,hnd];rfl) hW ((Kept.refl _ w).grown hgr fun k hk=>.inl (hown.lt k hk).1)
def jT (N T en d:Nat) (res:aZ (List aj)) (w:World) (e:Ending) (w':World):Prop :=
 Kept (· = N) w w'∧match res with
  | .ok (ns,r)=>(∃a c,e=.returned (.slice a ns.length c)∧aP w' w.heap.size 9 1 (.slice a ns.length c) ns.length (oC ns))∧bV N T en r d w'
  | .error er=>jo er e
theorem jT.thrown {N T en d:Nat} {r:aZ (List aj)} {w w2 w3:World} {er:Er} (K:Kept (· = N) w w2) (k:Kept (· = N) w2 w3) (hr:r=.error er):jT N T en d r w (.panicked [{v:=bI er,recovered:=false}]) w3:=by
 subst hr;exact ⟨K.trans k,rfl⟩
structure H7 (N T en d:Nat) (w:World) (ns:List aj) (v:Value) (n:Nat) (l:List aC) (wx:World):Prop where
 num:n=ns.length
 bH:bV N T en l d wx
 win:aP wx w.heap.size 9 1 v n (oC ns)
 kept:Kept (· = N) w wx
theorem H7.aQ {N T en d:Nat} {w wx wy:World} {ns:List aj} {v:Value} {n:Nat} {l l2:List aC} (h:H7 N T en d w ns v n l wx) (hN:N<w.heap.size) (hk:Kept (· = N) wx wy) (hr:bV N T en l2 d wy):H7 N T en d w ns v n l2 wy :=
 ⟨h.num,hr,h.win.kept hk (fun k hk2 e=>by have:=(h.win.lt k hk2).1;omega),h.kept.trans hk⟩
theorem Pv {N T en d:Nat} {l:List aC} {w:World} (h:bV N T en l d w):Calls Tryz.prog 142 #[.pointer (some ⟨N,0,none⟩),.string ⟨#[41]⟩] w (jT N T en d (namesT (some (bs [41])) en 9 [] l) w):=by
 obtain ⟨hN,hT,hne,h7⟩:=h.jm
 have I0:Hid (H7 N T en d w [] (.slice none 0 0) 0 l w):=⟨rfl,h,aP.nil _ _ _ _,Kept.refl _ _⟩
 clear h
 go_enter Tryz.func142, Tryz.ntmps142
 go_wp2_with fail
 go_loopg [5] 9 (fun f x wr=>∃(ns:List aj) (a:Option Addr) (n c:Nat) (l2:List aC),x=.slice a n c∧Hid (ns.length+f=9∧ns.length≤8)∧Hid (H7 N T en d w ns (.slice a n c) n l2 wr)∧Hid (namesT (some (bs [41])) en 9 [] l=namesT (some (bs [41])) en f ns l2))
 case atStart=>exact ⟨[],none,0,0,l,rfl,by unfold Hid;decide,I0,rfl⟩
 case round =>
  obtain ⟨ns,a,n,c,l2,rfl,hf,I,hch⟩:=hrel
  have hnn:=I.out.num
  by_cases h8:ns.length=8
  ·have z:((n:Int)==8)=true:=by rw [hnn,h8];rfl
   obtain rfl:gk=1:=by have:=hf.out;omega
   have jY:Hid (namesT (some (bs [41])) en 9 [] l=.error (5,dJ en l2)):=by unfold Hid;rw [hch.out,namesT,if_pos h8]
   obtain ⟨n9,a9,c9,r9⟩:=I.out.bH
   have HA:=ah (kU r9)
   clear r9 h8 hf hch hnn
   go_wp2_with (first
    | (go_at_call 71;(refine HA.out.mono ?_);rintro e w' ⟨rfl,aH⟩;obtain rfl:=aH.symm)
    | (go_at_call 70;(refine (dD _ 5 (dJ en l2) wr).mono ?_);rintro e w9 ⟨rfl,rfl⟩))
   exact ⟨rfl,jT.thrown I.out.kept (Kept.refl _ _) jY.out⟩
  ·have z:((n:Int)==8)=false:=by simp;omega
   obtain ⟨g,rfl⟩:∃g,gk=g+1:=by have:=hf.out;exact ⟨gk-1,by omega⟩
   have Hu:Hid (ns.length+g=8∧ns.length<8):=by have:=hf.out;unfold Hid;omega
   cases hu:dL en l2 with
   | error e0 =>
    have jY:Hid (namesT (some (bs [41])) en 9 [] l=.error e0):=by unfold Hid;rw [hch.out,namesT,if_neg h8,hu]
    have HU:=ah hu
    clear h8 hf hch hnn hu
    go_wp2_with (go_at_call 65;(refine (fB I.out.bH).mono ?_);intro e w3 eu;obtain ⟨bD,rfl⟩:=eu.bad HU.out;have K3:=ah bD;clear bD eu)
    exact ⟨rfl,jT.thrown I.out.kept K3.out jY.out⟩
   | ok y =>
    obtain ⟨nm,r⟩:=y
    have HU:=ah hu
    have jY:Hid (namesT (some (bs [41])) en 9 [] l=if aG (bs [41]) r=true then .ok (ns++[nm],r.tail) else match dW (bs [44]) en r with | .error er=>.error er | .ok r2=>namesT (some (bs [41])) en g (ns++[nm]) r2):=by unfold Hid;rw [hch.out,namesT,if_neg h8,hu];try rfl
    clear h8 hf hch hnn hu
    go_upto_region 5 with (first
     | (go_at_call 65;(refine (fB I.out.bH).mono ?_);intro e w3 eu;obtain ⟨bD,rfl,iL⟩:=eu.ok HU.out;have I3:=ah (I.out.aQ hN bD iL);clear bD iL eu)
     | (refine yK rfl _ _ rfl _ n ns nm I3.out.num rfl w.heap.size (I3.out.win.alloc _) _ rfl (ay w3 _) (by have:=Hu.out;omega) (by have:=I3.out.kept.size;simp;omega) ?_;intro a9 c9 n9 w9 Cc yw hk9;have K9:Kept (fun b=>w.heap.size≤b) w3 w9:=((Kept.refl _ w3).alloc _).trans hk9;have I9:Hid (H7 N T en d w (ns++[nm]) (.slice a9 n9 c9) n9 r w9):=⟨Cc.out,I3.out.bH.kept K9 (by omega) (by omega) (by omega),yw,I3.out.kept.step K9 (fun y hy=>.inr hy)⟩;clear yw hk9 K9 Cc))
    cases hs:aG ⟨#[41]⟩ r with
    | true =>
     have xE:Hid (namesT (some (bs [41])) en 9 [] l=.ok (ns++[nm],r.tail)):=by unfold Hid;rw [jY.out];exact if_pos hs
     go_wp2_with (go_at_call 68;(with_reducible refine (jB ⟨#[41]⟩ I9.out.bH hs).mono ?_);rintro e w10 ⟨rfl,pK,pO⟩;have I10:=ah (I9.out.aQ hN pO pK);clear pK pO)
     go_ret
     refine ⟨I10.out.kept,?_⟩
     rw [xE.out]
     exact ⟨⟨a9,c9,by rw [←I10.out.num];rfl,by rw [←I10.out.num];exact I10.out.win⟩,I10.out.bH⟩
    | false =>
     cases hv:dW (bs [44]) en r with
     | error e0 =>
      have xE:Hid (namesT (some (bs [41])) en 9 [] l=.error e0):=by unfold Hid;rw [jY.out,if_neg (by rw [show aG (bs [41]) r=false from hs];decide),hv]
      go_wp2_with (first
       | (go_at_call 68;(with_reducible refine (dX ⟨#[41]⟩ I9.out.bH hs).mono ?_);rintro e w10 ⟨rfl,pK,pO⟩;have I10:=ah (I9.out.aQ hN pO pK);clear pK pO)
       | (go_at_call 103;(refine (jd (bs [44]) I10.out.bH).mono ?_);intro e w8 yH;obtain ⟨oO,rfl⟩:=yH.bad hv;have K8:=ah oO;clear oO yH))
      exact ⟨rfl,jT.thrown I10.out.kept K8.out xE.out⟩
     | ok r2 =>
      have xE:Hid (namesT (some (bs [41])) en 9 [] l=namesT (some (bs [41])) en g (ns++[nm]) r2):=by unfold Hid;rw [jY.out,if_neg (by rw [show aG (bs [41]) r=false from hs];decide),hv]
      go_wp2_with (first
       | (go_at_call 68;(with_reducible refine (dX ⟨#[41]⟩ I9.out.bH hs).mono ?_);rintro e w10 ⟨rfl,pK,pO⟩;have I10:=ah (I9.out.aQ hN pO pK);clear pK pO)
       | (go_at_call 103;(refine (jd (bs [44]) I10.out.bH).mono ?_);intro e w8 yH;obtain ⟨oO,rfl,yI⟩:=yH.ok hv;have I11:=ah (I10.out.aQ hN oO yI);clear oO yI yH))
      go_roundg g
      case measure=>omega
      case rel=>exact ⟨ns++[nm],a9,n9,c9,r2,rfl,by have:=Hu.out;unfold Hid;rw [List.length_append];simp;omega,I11,xE⟩
theorem EL {N T en d:Nat} {l:List aC} {w:World} (h:bV N T en l d w):Calls Tryz.prog 142 #[.pointer (some ⟨N,0,none⟩),.string ⟨#[]⟩] w (jT N T en d (namesT none en 9 [] l) w):=by
 obtain ⟨hN,hT,hne,h7⟩:=h.jm
 have I0:Hid (H7 N T en d w [] (.slice none 0 0) 0 l w):=⟨rfl,h,aP.nil _ _ _ _,Kept.refl _ _⟩
 clear h
 go_enter Tryz.func142, Tryz.ntmps142
 go_wp2_with fail
 go_loopg [5] 9 (fun f x wr=>∃(ns:List aj) (a:Option Addr) (n c:Nat) (l2:List aC),x=.slice a n c∧Hid (ns.length+f=9∧ns.length≤8)∧Hid (H7 N T en d w ns (.slice a n c) n l2 wr)∧Hid (namesT none en 9 [] l=namesT none en f ns l2))
 case atStart=>exact ⟨[],none,0,0,l,rfl,by unfold Hid;decide,I0,rfl⟩
 case round =>
  obtain ⟨ns,a,n,c,l2,rfl,hf,I,hch⟩:=hrel
  have hnn:=I.out.num
  by_cases h8:ns.length=8
  ·have z:((n:Int)==8)=true:=by rw [hnn,h8];rfl
   obtain rfl:gk=1:=by have:=hf.out;omega
   have jY:Hid (namesT none en 9 [] l=.error (5,dJ en l2)):=by unfold Hid;rw [hch.out,namesT,if_pos h8]
   obtain ⟨n9,a9,c9,r9⟩:=I.out.bH
   have HA:=ah (kU r9)
   clear r9 h8 hf hch hnn
   go_wp2_with (first
    | (go_at_call 71;(refine HA.out.mono ?_);rintro e w' ⟨rfl,aH⟩;obtain rfl:=aH.symm)
    | (go_at_call 70;(refine (dD _ 5 (dJ en l2) wr).mono ?_);rintro e w9 ⟨rfl,rfl⟩))
   exact ⟨rfl,jT.thrown I.out.kept (Kept.refl _ _) jY.out⟩
  ·have z:((n:Int)==8)=false:=by simp;omega
   obtain ⟨g,rfl⟩:∃g,gk=g+1:=by have:=hf.out;exact ⟨gk-1,by omega⟩
   have Hu:Hid (ns.length+g=8∧ns.length<8):=by have:=hf.out;unfold Hid;omega
   cases hu:dL en l2 with
   | error e0 =>
    have jY:Hid (namesT none en 9 [] l=.error e0):=by unfold Hid;rw [hch.out,namesT,if_neg h8,hu]
    have HU:=ah hu
    clear h8 hf hch hnn hu
    go_wp2_with (go_at_call 65;(refine (fB I.out.bH).mono ?_);intro e w3 eu;obtain ⟨bD,rfl⟩:=eu.bad HU.out;have K3:=ah bD;clear bD eu)
    exact ⟨rfl,jT.thrown I.out.kept K3.out jY.out⟩
   | ok y =>
    obtain ⟨nm,r⟩:=y
    have HU:=ah hu
    have jY:Hid (namesT none en 9 [] l=if aG (bs [44]) r=true then namesT none en g (ns++[nm]) r.tail else .ok (ns++[nm],r)):=by unfold Hid;rw [hch.out,namesT,if_neg h8,hu];try rfl
    clear h8 hf hch hnn hu
    go_upto_region 5 with (first
     | (go_at_call 65;(refine (fB I.out.bH).mono ?_);intro e w3 eu;obtain ⟨bD,rfl,iL⟩:=eu.ok HU.out;have I3:=ah (I.out.aQ hN bD iL);clear bD iL eu)
     | (refine yK rfl _ _ rfl _ n ns nm I3.out.num rfl w.heap.size (I3.out.win.alloc _) _ rfl (ay w3 _) (by have:=Hu.out;omega) (by have:=I3.out.kept.size;simp;omega) ?_;intro a9 c9 n9 w9 Cc yw hk9;have K9:Kept (fun b=>w.heap.size≤b) w3 w9:=((Kept.refl _ w3).alloc _).trans hk9;have I9:Hid (H7 N T en d w (ns++[nm]) (.slice a9 n9 c9) n9 r w9):=⟨Cc.out,I3.out.bH.kept K9 (by omega) (by omega) (by omega),yw,I3.out.kept.step K9 (fun y hy=>.inr hy)⟩;clear yw hk9 K9 Cc))
    obtain ⟨n9',a9',c9',r9⟩:=I9.out.bH
    have HS:=ah (yE ⟨#[44]⟩ r9)
    clear r9
    cases hs:aG ⟨#[44]⟩ r with
    | false =>
     rw [hs] at HS
     have xE:Hid (namesT none en 9 [] l=.ok (ns++[nm],r)):=by unfold Hid;rw [jY.out];exact if_neg (by rw [show aG (bs [44]) r=false from hs];decide)
     go_wp2_with (go_at_call 66;(refine HS.out.mono ?_);rintro e w' ⟨rfl,aH⟩;obtain rfl:=aH.symm)
     go_ret
     refine ⟨I9.out.kept,?_⟩
     rw [xE.out]
     exact ⟨⟨a9,c9,by rw [←I9.out.num];rfl,by rw [←I9.out.num];exact I9.out.win⟩,I9.out.bH⟩
    | true =>
     rw [hs] at HS
     have xE:Hid (namesT none en 9 [] l=namesT none en g (ns++[nm]) r.tail):=by unfold Hid;rw [jY.out];exact if_pos hs
     have hv:dW (bs [44]) en r=.ok r.tail:=if_pos hs
     go_wp2_with (first
      | (go_at_call 66;(refine HS.out.mono ?_);rintro e w' ⟨rfl,aH⟩;obtain rfl:=aH.symm)
      | (go_at_call 103;(refine (jd (bs [44]) I9.out.bH).mono ?_);intro e w8 yH;obtain ⟨oO,rfl,yI⟩:=yH.ok hv;have I11:=ah (I9.out.aQ hN oO yI);clear oO yI yH))
     go_roundg g
     case measure=>omega
     case rel=>exact ⟨ns++[nm],a9,n9,c9,r.tail,rfl,by have:=Hu.out;unfold Hid;rw [List.length_append];simp;omega,I11,xE⟩
end Go.Proofs.YtodebjhalipefaaGreatDoor

namespace Go.Proofs.YtodebjhalipefaaGreatDoor
set_option linter.all false
open Go.RowKit
def Ug:aB:=.mk 0 ⟨#[]⟩ 0 ⟨#[]⟩ []
def Gx:aj:=⟨#[76,79,79,80]⟩
theorem aeM:iY≠fH:=by decide
theorem aeN:fH≠iY:=by decide
def kQ (l:List aj):Nat:=(l.map fun t=>t.size+1).sum
theorem RN:∀(l:List aj),(∀t∈l,t.size≤30)→kQ l≤31*l.length
 | [],_=>Nat.le_refl _
 | t::r,h=>by
  have:=RN r fun x hx=>h x (List.mem_cons_of_mem _ hx)
  have:=h t (List.mem_cons_self ..)
  unfold kQ at *
  simp only [List.map_cons,List.sum_cons,List.length_cons]
  omega
end Go.Proofs.YtodebjhalipefaaGreatDoor

namespace Go.Proofs.YtodebjhalipefaaGreatDoor
set_option linter.all false
open Go.RowKit
set_option maxRecDepth 100000
set_option maxHeartbeats 4000000
theorem Yc {a b c:Int} (ha:eH a) (hb:eH b) (hc:c=wrap64 (a+b)) :
  (b=0∧¬a<c∧qV a b=some c)∨(0<b∧a<c∧qV a b=some c)∨(0<b∧¬a<c∧qV a b=none)∨(b<0∧¬a<c∧qV a b=some c)∨(b<0∧a<c∧qV a b=none):=by
 by_cases h:eH (a+b)
 ·have e0:qV a b=some (a+b):=if_pos h
  rw [e0]
  unfold eH at *
  unfold wrap64 at hc
  have e:c=a+b:=by omega
  subst e
  rcases Int.lt_trichotomy b 0 with h1|h1|h1
  ·exact .inr (.inr (.inr (.inl ⟨h1,by omega,rfl⟩)))
  ·exact .inl ⟨h1,by omega,rfl⟩
  ·exact .inr (.inl ⟨h1,by omega,rfl⟩)
 ·have e0:qV a b=none:=if_neg h
  rw [e0]
  unfold eH at *
  unfold wrap64 at hc
  rcases Int.lt_trichotomy b 0 with h1|h1|h1
  ·exact .inr (.inr (.inr (.inr ⟨h1,by omega,rfl⟩)))
  ·omega
  ·exact .inr (.inr (.inl ⟨h1,by omega,rfl⟩))
theorem Ur (a b:Int) (w:World) (ha:eH a) (hb:eH b):Calls Tryz.prog 154 #[.int .i64 a,.int .i64 b] w (iH (qV a b) w):=by
 obtain ⟨c,hc⟩:∃c,c=wrap64 (a+b):=⟨_,rfl⟩
 have hcs:=Yc ha hb hc
 have HC:=ah hc
 clear hc ha hb
 rcases hcs with ⟨h0,h1,hf⟩|⟨h0,h1,hf⟩|⟨h0,h1,hf⟩|⟨h0,h1,hf⟩|⟨h0,h1,hf⟩
 ·have fin:=ah hf
  have d1:decide (a<c)=false:=by simp;omega
  have d2:decide (0<b)=false:=by simp;omega
  have d3:(b==0)=true:=by simp;omega
  have d4:(b != 0)=false:=by simp;omega
  clear h0 h1 hf
  go_enter Tryz.func154, Tryz.ntmps154
  go_upto_region 2 with fail
  rw [←HC.out]
  go_wp2_with fail
  exact lT rfl rfl rfl (iH.some (Kept.refl _ _) fin.out)
 ·have fin:=ah hf
  have d1:decide (a<c)=true:=by simp;omega
  have d2:decide (0<b)=true:=by simp;omega
  have d3:(b==0)=false:=by simp;omega
  have d4:(b != 0)=true:=by simp;omega
  clear h0 h1 hf
  go_enter Tryz.func154, Tryz.ntmps154
  go_upto_region 2 with fail
  rw [←HC.out]
  go_wp2_with fail
  exact lT rfl rfl rfl (iH.some (Kept.refl _ _) fin.out)
 ·have fin:=ah hf
  have d1:decide (a<c)=false:=by simp;omega
  have d2:decide (0<b)=true:=by simp;omega
  have d3:(b==0)=false:=by simp;omega
  have d4:(b != 0)=true:=by simp;omega
  clear h0 h1 hf
  go_enter Tryz.func154, Tryz.ntmps154
  go_upto_region 2 with fail
  rw [←HC.out]
  go_wp2_with fail
  exact lT rfl rfl rfl (iH.none (Kept.refl _ _) fin.out (by decide))
 ·have fin:=ah hf
  have d1:decide (a<c)=false:=by simp;omega
  have d2:decide (0<b)=false:=by simp;omega
  have d3:(b==0)=false:=by simp;omega
  have d4:(b != 0)=true:=by simp;omega
  clear h0 h1 hf
  go_enter Tryz.func154, Tryz.ntmps154
  go_upto_region 2 with fail
  rw [←HC.out]
  go_wp2_with fail
  exact lT rfl rfl rfl (iH.some (Kept.refl _ _) fin.out)
 ·have fin:=ah hf
  have d1:decide (a<c)=true:=by simp;omega
  have d2:decide (0<b)=false:=by simp;omega
  have d3:(b==0)=false:=by simp;omega
  have d4:(b != 0)=true:=by simp;omega
  clear h0 h1 hf
  go_enter Tryz.func154, Tryz.ntmps154
  go_upto_region 2 with fail
  rw [←HC.out]
  go_wp2_with fail
  exact lT rfl rfl rfl (iH.none (Kept.refl _ _) fin.out (by decide))
end Go.Proofs.YtodebjhalipefaaGreatDoor

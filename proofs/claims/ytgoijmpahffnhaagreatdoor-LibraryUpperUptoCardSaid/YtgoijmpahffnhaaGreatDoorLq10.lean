/-  -/
import Derived.Test.YtgoijmpahffnhaaGreatDoorLq18
namespace Go.Proofs.YtgoijmpahffnhaaGreatDoor
set_option linter.all false
open Go.RowKit
set_option maxRecDepth 100000
set_option maxHeartbeats 8000000
def jI (l:List aj):List Value:=l.map Value.string
theorem OO:(Tryz.prog.info? 9).map (fun i=>(i.zero,i.size,i.bytes))=some (some (.string ⟨#[]⟩),1,16):=by kernel_rfl
theorem Ls (l:List aj) (x:aj):jI l++[.string x]=jI (l++[x]):=by simp [jI]
theorem zA {ops:Array Oper} {rest:List Oper} {o:Oper} {a:Act} {Q:Exit→Act→World→Prop} {w:World} (hgd:o.guard=none) (s x:Operand)
  (ho:o.op=.call {callee:=.builtin .append,args:=#[s,x],argTypes:=#[22,22]})
  (v:Value) (n:Nat) (l:List aj) (t:aj) (hnd:n=l.length) (hs:a.eval s=v) (B:Nat) (hown:aO w B 9 1 v n (jI l)) (g:Nat) (hx:a.eval x=.slice (some ⟨g,0,none⟩) 1 1)
  (hg:w.heap[g]?=some (.cells #[.string t] 9 (0,0))) (hn:l.length≤1000000) (hB:B≤w.heap.size)
  (h:∀a' c' n' w',Hid (n'=(l++[t]).length)→aO w' B 9 1 (.slice a' n' c') n' (jI (l++[t]))→Kept (fun b=>B≤b) w w'→wpList Tryz.prog ops Q rest (a.put o.dst (.slice a' n' c')) w') :
  wpList Tryz.prog ops Q (o::rest) a w:=by
 obtain ⟨i0,hi0,hz0,hz1,hz2⟩:=info_parts OO
 have hsr:Src Tryz.prog 1 22 (.slice (some ⟨g,0,none⟩) 1 1) 1 [.string t] w :=
  Src.ofSlice _ Tryz.underlying22 _ _ _ _ rfl (World.news_of_block (fr:=(0,0)) (cs:=#[.string t]) hg) (by intro u hu;simp at hu;subst hu;rfl)
 refine dM w hgd s x _ _ ho B 9 i0 (.string ⟨#[]⟩) 1 16 Tryz.underlying22 hi0 hz0 hz1 hz2 rfl v n (jI l) hs hown _ 1 _ hx hsr (by unfold maxLen;omega) (by omega) hB ?_
 intro a' c' w' hW hgr _
 rw [Ls] at hW
 exact h a' c' _ w' (by unfold Hid;rw [List.length_append,hnd];rfl) hW ((Kept.refl _ w).grown hgr fun k hk=>.inl (hown.lt k hk).1)
def kG (N T en d:Nat) (res:bf (List aj)) (w:World) (e:Ending) (w':World):Prop :=
 Kept (· = N) w w'∧match res with
  | .ok (ns,r)=>(∃a c,e=.returned (.slice a ns.length c)∧aO w' w.heap.size 9 1 (.slice a ns.length c) ns.length (jI ns))∧bZ N T en r d w'
  | .error er=>jq er e
theorem kG.thrown {N T en d:Nat} {r:bf (List aj)} {w w2 w3:World} {er:Er} (K:Kept (· = N) w w2) (k:Kept (· = N) w2 w3) (hr:r=.error er):kG N T en d r w (.panicked [{v:=bK er,recovered:=false}]) w3:=by
 subst hr;exact ⟨K.trans k,rfl⟩
structure IU (N T en d:Nat) (w:World) (ns:List aj) (v:Value) (n:Nat) (l:List aC) (wx:World):Prop where
 num:n=ns.length
 bI:bZ N T en l d wx
 win:aO wx w.heap.size 9 1 v n (jI ns)
 kept:Kept (· = N) w wx
theorem IU.aS {N T en d:Nat} {w wx wy:World} {ns:List aj} {v:Value} {n:Nat} {l l2:List aC} (h:IU N T en d w ns v n l wx) (hN:N<w.heap.size) (hk:Kept (· = N) wx wy) (hr:bZ N T en l2 d wy):IU N T en d w ns v n l2 wy :=
 ⟨h.num,hr,h.win.kept hk (fun k hk2 e=>by have:=(h.win.lt k hk2).1;omega),h.kept.trans hk⟩
theorem Qj {N T en d:Nat} {l:List aC} {w:World} (h:bZ N T en l d w):Calls Tryz.prog 127 #[.pointer (some ⟨N,0,none⟩),.string ⟨#[41]⟩] w (kG N T en d (namesT (some (bs [41])) en 9 [] l) w):=by
 obtain ⟨hN,hT,hne,h7⟩:=h.jo
 have I0:Hid (IU N T en d w [] (.slice none 0 0) 0 l w):=⟨rfl,h,aO.nil _ _ _ _,Kept.refl _ _⟩
 clear h
 go_enter Tryz.func127, Tryz.ntmps127
 go_wp2_with fail
 go_loopg [5] 9 (fun f x wr=>∃(ns:List aj) (a:Option Addr) (n c:Nat) (l2:List aC),x=.slice a n c∧Hid (ns.length+f=9∧ns.length≤8)∧Hid (IU N T en d w ns (.slice a n c) n l2 wr)∧Hid (namesT (some (bs [41])) en 9 [] l=namesT (some (bs [41])) en f ns l2))
 case atStart=>exact ⟨[],none,0,0,l,rfl,by unfold Hid;decide,I0,rfl⟩
 case round =>
  obtain ⟨ns,a,n,c,l2,rfl,hf,I,hch⟩:=hrel
  have hnn:=I.out.num
  by_cases h8:ns.length=8
  ·have z:((n:Int)==8)=true:=by rw [hnn,h8];rfl
   obtain rfl:gk=1:=by have:=hf.out;omega
   have kR:Hid (namesT (some (bs [41])) en 9 [] l=.error (5,dK en l2)):=by unfold Hid;rw [hch.out,namesT,if_pos h8]
   obtain ⟨n9,a9,c9,r9⟩:=I.out.bI
   have HA:=ah (lJ r9)
   clear r9 h8 hf hch hnn
   go_wp2_with (first
    | (go_at_call 56;(refine HA.out.mono ?_);rintro e w' ⟨rfl,aI⟩;obtain rfl:=aI.symm)
    | (go_at_call 55;(refine (dH _ 5 (dK en l2) wr).mono ?_);rintro e w9 ⟨rfl,rfl⟩))
   exact ⟨rfl,kG.thrown I.out.kept (Kept.refl _ _) kR.out⟩
  ·have z:((n:Int)==8)=false:=by simp;omega
   obtain ⟨g,rfl⟩:∃g,gk=g+1:=by have:=hf.out;exact ⟨gk-1,by omega⟩
   have IK:Hid (ns.length+g=8∧ns.length<8):=by have:=hf.out;unfold Hid;omega
   cases hu:dN en l2 with
   | error e0 =>
    have kR:Hid (namesT (some (bs [41])) en 9 [] l=.error e0):=by unfold Hid;rw [hch.out,namesT,if_neg h8,hu]
    have HU:=ah hu
    clear h8 hf hch hnn hu
    go_wp2_with (go_at_call 50;(refine (fD I.out.bI).mono ?_);intro e w3 eG;obtain ⟨bF,rfl⟩:=eG.bad HU.out;have K3:=ah bF;clear bF eG)
    exact ⟨rfl,kG.thrown I.out.kept K3.out kR.out⟩
   | ok y =>
    obtain ⟨nm,r⟩:=y
    have HU:=ah hu
    have kR:Hid (namesT (some (bs [41])) en 9 [] l=if aG (bs [41]) r=true then .ok (ns++[nm],r.tail) else match dX (bs [44]) en r with | .error er=>.error er | .ok r2=>namesT (some (bs [41])) en g (ns++[nm]) r2):=by unfold Hid;rw [hch.out,namesT,if_neg h8,hu];try rfl
    clear h8 hf hch hnn hu
    go_upto_region 5 with (first
     | (go_at_call 50;(refine (fD I.out.bI).mono ?_);intro e w3 eG;obtain ⟨bF,rfl,iO⟩:=eG.ok HU.out;have I3:=ah (I.out.aS hN bF iO);clear bF iO eG)
     | (refine zA rfl _ _ rfl _ n ns nm I3.out.num rfl w.heap.size (I3.out.win.alloc _) _ rfl (ay w3 _) (by have:=IK.out;omega) (by have:=I3.out.kept.size;simp;omega) ?_;intro a9 c9 n9 w9 um nC hk9;have K9:Kept (fun b=>w.heap.size≤b) w3 w9:=((Kept.refl _ w3).alloc _).trans hk9;have I9:Hid (IU N T en d w (ns++[nm]) (.slice a9 n9 c9) n9 r w9):=⟨um.out,I3.out.bI.kept K9 (by omega) (by omega) (by omega),nC,I3.out.kept.step K9 (fun y hy=>.inr hy)⟩;clear nC hk9 K9 um))
    cases hs:aG ⟨#[41]⟩ r with
    | true =>
     have yE:Hid (namesT (some (bs [41])) en 9 [] l=.ok (ns++[nm],r.tail)):=by unfold Hid;rw [kR.out];exact if_pos hs
     go_wp2_with (go_at_call 53;(with_reducible refine (jG ⟨#[41]⟩ I9.out.bI hs).mono ?_);rintro e w10 ⟨rfl,qw,qx⟩;have I10:=ah (I9.out.aS hN qx qw);clear qw qx)
     go_ret
     refine ⟨I10.out.kept,?_⟩
     rw [yE.out]
     exact ⟨⟨a9,c9,by rw [←I10.out.num];rfl,by rw [←I10.out.num];exact I10.out.win⟩,I10.out.bI⟩
    | false =>
     cases hv:dX (bs [44]) en r with
     | error e0 =>
      have yE:Hid (namesT (some (bs [41])) en 9 [] l=.error e0):=by unfold Hid;rw [kR.out,if_neg (by rw [show aG (bs [41]) r=false from hs];decide),hv]
      go_wp2_with (first
       | (go_at_call 53;(with_reducible refine (dY ⟨#[41]⟩ I9.out.bI hs).mono ?_);rintro e w10 ⟨rfl,qw,qx⟩;have I10:=ah (I9.out.aS hN qx qw);clear qw qx)
       | (go_at_call 88;(refine (jf (bs [44]) I10.out.bI).mono ?_);intro e w8 zu;obtain ⟨pG,rfl⟩:=zu.bad hv;have K8:=ah pG;clear pG zu))
      exact ⟨rfl,kG.thrown I10.out.kept K8.out yE.out⟩
     | ok r2 =>
      have yE:Hid (namesT (some (bs [41])) en 9 [] l=namesT (some (bs [41])) en g (ns++[nm]) r2):=by unfold Hid;rw [kR.out,if_neg (by rw [show aG (bs [41]) r=false from hs];decide),hv]
      go_wp2_with (first
       | (go_at_call 53;(with_reducible refine (dY ⟨#[41]⟩ I9.out.bI hs).mono ?_);rintro e w10 ⟨rfl,qw,qx⟩;have I10:=ah (I9.out.aS hN qx qw);clear qw qx)
       | (go_at_call 88;(refine (jf (bs [44]) I10.out.bI).mono ?_);intro e w8 zu;obtain ⟨pG,rfl,zx⟩:=zu.ok hv;have I11:=ah (I10.out.aS hN pG zx);clear pG zx zu))
      go_roundg g
      case measure=>omega
      case rel=>exact ⟨ns++[nm],a9,n9,c9,r2,rfl,by have:=IK.out;unfold Hid;rw [List.length_append];simp;omega,I11,yE⟩
theorem FM {N T en d:Nat} {l:List aC} {w:World} (h:bZ N T en l d w):Calls Tryz.prog 127 #[.pointer (some ⟨N,0,none⟩),.string ⟨#[]⟩] w (kG N T en d (namesT none en 9 [] l) w):=by
 obtain ⟨hN,hT,hne,h7⟩:=h.jo
 have I0:Hid (IU N T en d w [] (.slice none 0 0) 0 l w):=⟨rfl,h,aO.nil _ _ _ _,Kept.refl _ _⟩
 clear h
 go_enter Tryz.func127, Tryz.ntmps127
 go_wp2_with fail
 go_loopg [5] 9 (fun f x wr=>∃(ns:List aj) (a:Option Addr) (n c:Nat) (l2:List aC),x=.slice a n c∧Hid (ns.length+f=9∧ns.length≤8)∧Hid (IU N T en d w ns (.slice a n c) n l2 wr)∧Hid (namesT none en 9 [] l=namesT none en f ns l2))
 case atStart=>exact ⟨[],none,0,0,l,rfl,by unfold Hid;decide,I0,rfl⟩
 case round =>
  obtain ⟨ns,a,n,c,l2,rfl,hf,I,hch⟩:=hrel
  have hnn:=I.out.num
  by_cases h8:ns.length=8
  ·have z:((n:Int)==8)=true:=by rw [hnn,h8];rfl
   obtain rfl:gk=1:=by have:=hf.out;omega
   have kR:Hid (namesT none en 9 [] l=.error (5,dK en l2)):=by unfold Hid;rw [hch.out,namesT,if_pos h8]
   obtain ⟨n9,a9,c9,r9⟩:=I.out.bI
   have HA:=ah (lJ r9)
   clear r9 h8 hf hch hnn
   go_wp2_with (first
    | (go_at_call 56;(refine HA.out.mono ?_);rintro e w' ⟨rfl,aI⟩;obtain rfl:=aI.symm)
    | (go_at_call 55;(refine (dH _ 5 (dK en l2) wr).mono ?_);rintro e w9 ⟨rfl,rfl⟩))
   exact ⟨rfl,kG.thrown I.out.kept (Kept.refl _ _) kR.out⟩
  ·have z:((n:Int)==8)=false:=by simp;omega
   obtain ⟨g,rfl⟩:∃g,gk=g+1:=by have:=hf.out;exact ⟨gk-1,by omega⟩
   have IK:Hid (ns.length+g=8∧ns.length<8):=by have:=hf.out;unfold Hid;omega
   cases hu:dN en l2 with
   | error e0 =>
    have kR:Hid (namesT none en 9 [] l=.error e0):=by unfold Hid;rw [hch.out,namesT,if_neg h8,hu]
    have HU:=ah hu
    clear h8 hf hch hnn hu
    go_wp2_with (go_at_call 50;(refine (fD I.out.bI).mono ?_);intro e w3 eG;obtain ⟨bF,rfl⟩:=eG.bad HU.out;have K3:=ah bF;clear bF eG)
    exact ⟨rfl,kG.thrown I.out.kept K3.out kR.out⟩
   | ok y =>
    obtain ⟨nm,r⟩:=y
    have HU:=ah hu
    have kR:Hid (namesT none en 9 [] l=if aG (bs [44]) r=true then namesT none en g (ns++[nm]) r.tail else .ok (ns++[nm],r)):=by unfold Hid;rw [hch.out,namesT,if_neg h8,hu];try rfl
    clear h8 hf hch hnn hu
    go_upto_region 5 with (first
     | (go_at_call 50;(refine (fD I.out.bI).mono ?_);intro e w3 eG;obtain ⟨bF,rfl,iO⟩:=eG.ok HU.out;have I3:=ah (I.out.aS hN bF iO);clear bF iO eG)
     | (refine zA rfl _ _ rfl _ n ns nm I3.out.num rfl w.heap.size (I3.out.win.alloc _) _ rfl (ay w3 _) (by have:=IK.out;omega) (by have:=I3.out.kept.size;simp;omega) ?_;intro a9 c9 n9 w9 um nC hk9;have K9:Kept (fun b=>w.heap.size≤b) w3 w9:=((Kept.refl _ w3).alloc _).trans hk9;have I9:Hid (IU N T en d w (ns++[nm]) (.slice a9 n9 c9) n9 r w9):=⟨um.out,I3.out.bI.kept K9 (by omega) (by omega) (by omega),nC,I3.out.kept.step K9 (fun y hy=>.inr hy)⟩;clear nC hk9 K9 um))
    obtain ⟨n9',a9',c9',r9⟩:=I9.out.bI
    have HS:=ah (zl ⟨#[44]⟩ r9)
    clear r9
    cases hs:aG ⟨#[44]⟩ r with
    | false =>
     rw [hs] at HS
     have yE:Hid (namesT none en 9 [] l=.ok (ns++[nm],r)):=by unfold Hid;rw [kR.out];exact if_neg (by rw [show aG (bs [44]) r=false from hs];decide)
     go_wp2_with (go_at_call 51;(refine HS.out.mono ?_);rintro e w' ⟨rfl,aI⟩;obtain rfl:=aI.symm)
     go_ret
     refine ⟨I9.out.kept,?_⟩
     rw [yE.out]
     exact ⟨⟨a9,c9,by rw [←I9.out.num];rfl,by rw [←I9.out.num];exact I9.out.win⟩,I9.out.bI⟩
    | true =>
     rw [hs] at HS
     have yE:Hid (namesT none en 9 [] l=namesT none en g (ns++[nm]) r.tail):=by unfold Hid;rw [kR.out];exact if_pos hs
     have hv:dX (bs [44]) en r=.ok r.tail:=if_pos hs
     go_wp2_with (first
      | (go_at_call 51;(refine HS.out.mono ?_);rintro e w' ⟨rfl,aI⟩;obtain rfl:=aI.symm)
      | (go_at_call 88;(refine (jf (bs [44]) I9.out.bI).mono ?_);intro e w8 zu;obtain ⟨pG,rfl,zx⟩:=zu.ok hv;have I11:=ah (I9.out.aS hN pG zx);clear pG zx zu))
     go_roundg g
     case measure=>omega
     case rel=>exact ⟨ns++[nm],a9,n9,c9,r.tail,rfl,by have:=IK.out;unfold Hid;rw [List.length_append];simp;omega,I11,yE⟩
end Go.Proofs.YtgoijmpahffnhaaGreatDoor

namespace Go.Proofs.YtgoijmpahffnhaaGreatDoor
set_option linter.all false
open Go.RowKit
set_option maxRecDepth 100000
set_option maxHeartbeats 4000000
theorem Kz:Nh zB:=⟨⟨by decide,by decide,by decide⟩,by simp [zB,sizeT,bP]⟩
theorem ag6 {lb:aj} (h:lb.size<1000000000):qM {st0 with label:=lb} :=
 by
 have e0:E0.size<1000000000:=by decide
 have en:([]:List aj).length<1000000000:=by decide
 exact ⟨h,Kz,Kz,Kz,e0,e0,⟨en,fun x hx=>by cases hx⟩,⟨en,fun x hx=>by cases hx⟩,e0,e0,e0⟩
theorem bV.free {N:Nat} {a:gZ} {s:aF} {w:World} (h:bV N a s w) (o:Nat):w.frozen? ⟨N,o,none⟩=false:=by
 unfold bV at h;simp [World.frozen?,h]
structure su (w:World) (S:Nat→Prop) (a:gZ) (s:aF):Prop where
 target:aN w S a.ta s.target.kids
 value:aN w S a.va s.value.kids
 pat:aN w S a.pa s.pat.kids
 params:aQ w S a.ma s.params
 locals:aQ w S a.la s.locals
 pc:s.params.length≤a.mc
 lc:s.locals.length≤a.lc
theorem su.ok {w:World} {S:Nat→Prop} {a:gZ} {s:aF} (h:su w S a s):wQ w S a s:=⟨h.target,h.value,h.pat,h.params,h.locals⟩
theorem su.to {w w':World} {S S':Nat→Prop} {X:Nat→Prop} {a:gZ} {s:aF} (h:su w S a s) (hk:Kept X w w') (hs:Safe S X w.heap.size) (h':∀b,S b→S' b):su w' S' a s :=
 ⟨h.target.to hk hs h',h.value.to hk hs h',h.pat.to hk hs h',h.params.to hk hs h',h.locals.to hk hs h',h.pc,h.lc⟩
structure dB (N T en M:Nat) (s:aF) (l:List aC) (w:World):Prop where
 bI:bZ N T en l 0 w
 st:∃a S,bV M a s w∧su w S a s∧∀b,S b→M<b∧b<w.heap.size
 sz:qM s
 lt:N<M∧T<M
 few:l.length≤100000
theorem dB.aS {N T en M:Nat} {s:aF} {l l2:List aC} {w w2:World} (h:dB N T en M s l w) (hk:Kept (· = N) w w2) (hr:bZ N T en l2 0 w2) (hl:l2.length≤l.length):dB N T en M s l2 w2:=by
 obtain ⟨h1,⟨a,S,h2,h3,h4⟩,h5,h6,h7⟩:=h
 exact ⟨hr,⟨a,S,h2.kept hk (by omega),h3.to hk (fun b hb=>⟨(h4 b hb).2,by have:=h4 b hb;omega⟩) (fun _ h=>h),fun b hb=>⟨(h4 b hb).1,Nat.lt_of_lt_of_le (h4 b hb).2 hk.size⟩⟩,h5,h6,by omega⟩
theorem dB.quiet {N T en M:Nat} {s:aF} {l:List aC} {w w2:World} (h:dB N T en M s l w) (hk:Kept aA w w2):dB N T en M s l w2 :=
 h.aS (hk.more fun _ h=>h.elim) (h.bI.kept hk (fun h=>h) (fun h=>h)) (Nat.le_refl _)
theorem dB.rP {N T en M:Nat} {l:List aC} {w:World} (h:bZ N T en l 0 w) (hlt:N<M∧T<M) {w2:World} (hk:Kept (· = M) w w2):bZ N T en l 0 w2 :=
 h.kept hk (by omega) (by omega) (by have:=h.jo;omega)
def dD (N T en M:Nat) (res:bf aF) (w:World) (e:Ending) (w':World):Prop :=
 Kept (fun b=>b=N∨b=M) w w'∧match res with
  | .ok (s,r)=>e=.returned (.tuple #[])∧dB N T en M s r w'
  | .error er=>jq er e
theorem dD.thrown {N T en M:Nat} {r:bf aF} {w w2 w3:World} {er:Er} (K:Kept (fun b=>b=N∨b=M) w w2) (k:Kept (· = N) w2 w3) (hr:r=.error er):dD N T en M r w (.panicked [{v:=bK er,recovered:=false}]) w3:=by
 subst hr;exact ⟨K.trans (k.more (fun _ h=>.inl h)),rfl⟩
theorem dD.done {N T en M:Nat} {r:bf aF} {w w2:World} {s:aF} {l:List aC} (K:Kept (fun b=>b=N∨b=M) w w2) (h:dB N T en M s l w2) (hr:r=.ok (s,l)):dD N T en M r w (.returned (.tuple #[])) w2:=by
 subst hr;exact ⟨K,rfl,h⟩
theorem dD.ok {N T en M:Nat} {r:bf aF} {w w':World} {s:aF} {l:List aC} {e:Ending} (h:dD N T en M r w e w') (hr:r=.ok (s,l)):Kept (fun b=>b=N∨b=M) w w'∧e=.returned (.tuple #[])∧dB N T en M s l w':=by
 subst hr;exact ⟨h.1,h.2.1,h.2.2⟩
theorem dD.bad {N T en M:Nat} {r:bf aF} {w w':World} {er:Er} {e:Ending} (h:dD N T en M r w e w') (hr:r=.error er):Kept (fun b=>b=N∨b=M) w w'∧jq er e:=by
 subst hr;exact h
theorem vK.ok {N T en d:Nat} {l r:List aC} {w w':World} {e:Ending} {x:aj} (h:vK N T en l d w e w') (hr:dR en l=.ok (x,r)):Kept (· = N) w w'∧e=.returned (.string x)∧bZ N T en r d w':=by
 unfold vK at h;rw [hr] at h;exact ⟨h.1,h.2.1,h.2.2⟩
theorem vK.bad {N T en d:Nat} {l:List aC} {w w':World} {e:Ending} {er:Er} (h:vK N T en l d w e w') (hr:dR en l=.error er):Kept (· = N) w w'∧jq er e:=by
 unfold vK at h;rw [hr] at h;exact h
theorem BZ.ok {N T en d:Nat} {l r:List aC} {w w':World} {e:Ending} {p:aB} (h:BZ N T en l d w e w') (hr:qR en l=.ok (p,r)) :
  Kept (· = N) w w'∧bZ N T en r d w'∧∃S ka cap,e=.returned (.agg #[.int .i64 p.kind,.string p.text,.int .i64 p.n,.string p.name,.slice ka p.kids.length cap])∧(∀b,S b→w.heap.size≤b∧b<w'.heap.size)∧(p.text.size<1000000000∧p.name.size<1000000000∧p.kids.length<1000000000)∧aN w' S ka p.kids:=by
 unfold BZ at h;rw [hr] at h
 obtain ⟨k,⟨v,rfl,S,hS,ka,cap,rfl,hz,hk⟩,hp⟩:=h
 exact ⟨k,hp,S,ka,cap,rfl,hS,hz,hk⟩
theorem BZ.bad {N T en d:Nat} {l:List aC} {w w':World} {e:Ending} {er:Er} (h:BZ N T en l d w e w') (hr:qR en l=.error er):Kept (· = N) w w'∧jq er e:=by
 unfold BZ at h;rw [hr] at h;exact h
theorem kG.ok {N T en d:Nat} {res:bf (List aj)} {ns:List aj} {r:List aC} {w w':World} {e:Ending} (h:kG N T en d res w e w') (hr:res=.ok (ns,r)) :
  Kept (· = N) w w'∧bZ N T en r d w'∧∃a c,e=.returned (.slice a ns.length c)∧aO w' w.heap.size 9 1 (.slice a ns.length c) ns.length (jI ns):=by
 subst hr
 obtain ⟨k,⟨a,c,rfl,hw⟩,hp⟩:=h
 exact ⟨k,hp,a,c,rfl,hw⟩
theorem kG.bad {N T en d:Nat} {res:bf (List aj)} {w w':World} {e:Ending} {er:Er} (h:kG N T en d res w e w') (hr:res=.error er):Kept (· = N) w w'∧jq er e:=by
 subst hr;exact h
theorem bT {w:World} {M i:Nat} {v:Value}:Kept (· = M) w (w.setCell ⟨M,i,none⟩ v):=(Kept.refl (· = M) w).setCell (p:=⟨M,i,none⟩) (.inl rfl) v
theorem dB.ada {N T en M:Nat} {s:aF} {l:List aC} {w:World} (h:dB N T en M s l w) (x:aj) (hx:x.size<1000000000):dB N T en M {s with label:=x} l (w.setCell ⟨M,0,none⟩ (.string x)):=by
 obtain ⟨h1,⟨a,S,h2,h3,h4⟩,h5,h6,h7⟩:=h
 have hB:bV M a {s with label:=x} (w.setCell ⟨M,0,none⟩ (.string x)):=by unfold bV at h2⊢;rw [aT h2 _];rfl
 have h3':=h3.to (S':=S) (bT (w:=w) (M:=M) (i:=0) (v:=.string x)) (fun b hb=>⟨(h4 b hb).2,by have:=h4 b hb;omega⟩) (fun _ h=>h)
 exact ⟨dB.rP h1 h6 bT,⟨a,S,hB,⟨h3'.target,h3'.value,h3'.pat,h3'.params,h3'.locals,h3'.pc,h3'.lc⟩,fun b hb=>⟨(h4 b hb).1,Nat.lt_of_lt_of_le (h4 b hb).2 (bT (w:=w) (M:=M) (i:=0) (v:=.string x)).size⟩⟩,⟨hx,h5.target,h5.value,h5.pat,h5.name,h5.entry,h5.params,h5.locals,h5.always,h5.yes,h5.bW⟩,h6,h7⟩
theorem dB.setKind {N T en M:Nat} {s:aF} {l:List aC} {w:World} (h:dB N T en M s l w) (x:Int):dB N T en M {s with kind:=x} l (w.setCell ⟨M,1,none⟩ (.int .i64 x)):=by
 obtain ⟨h1,⟨a,S,h2,h3,h4⟩,h5,h6,h7⟩:=h
 have hB:bV M a {s with kind:=x} (w.setCell ⟨M,1,none⟩ (.int .i64 x)):=by unfold bV at h2⊢;rw [aT h2 _];rfl
 have h3':=h3.to (S':=S) (bT (w:=w) (M:=M) (i:=1) (v:=.int .i64 x)) (fun b hb=>⟨(h4 b hb).2,by have:=h4 b hb;omega⟩) (fun _ h=>h)
 exact ⟨dB.rP h1 h6 bT,⟨a,S,hB,⟨h3'.target,h3'.value,h3'.pat,h3'.params,h3'.locals,h3'.pc,h3'.lc⟩,fun b hb=>⟨(h4 b hb).1,Nat.lt_of_lt_of_le (h4 b hb).2 (bT (w:=w) (M:=M) (i:=1) (v:=.int .i64 x)).size⟩⟩,⟨h5.label,h5.target,h5.value,h5.pat,h5.name,h5.entry,h5.params,h5.locals,h5.always,h5.yes,h5.bW⟩,h6,h7⟩
theorem dB.setName {N T en M:Nat} {s:aF} {l:List aC} {w:World} (h:dB N T en M s l w) (x:aj) (hx:x.size<1000000000):dB N T en M {s with name:=x} l (w.setCell ⟨M,17,none⟩ (.string x)):=by
 obtain ⟨h1,⟨a,S,h2,h3,h4⟩,h5,h6,h7⟩:=h
 have hB:bV M a {s with name:=x} (w.setCell ⟨M,17,none⟩ (.string x)):=by unfold bV at h2⊢;rw [aT h2 _];rfl
 have h3':=h3.to (S':=S) (bT (w:=w) (M:=M) (i:=17) (v:=.string x)) (fun b hb=>⟨(h4 b hb).2,by have:=h4 b hb;omega⟩) (fun _ h=>h)
 exact ⟨dB.rP h1 h6 bT,⟨a,S,hB,⟨h3'.target,h3'.value,h3'.pat,h3'.params,h3'.locals,h3'.pc,h3'.lc⟩,fun b hb=>⟨(h4 b hb).1,Nat.lt_of_lt_of_le (h4 b hb).2 (bT (w:=w) (M:=M) (i:=17) (v:=.string x)).size⟩⟩,⟨h5.label,h5.target,h5.value,h5.pat,hx,h5.entry,h5.params,h5.locals,h5.always,h5.yes,h5.bW⟩,h6,h7⟩
theorem dB.Cb {N T en M:Nat} {s:aF} {l:List aC} {w:World} (h:dB N T en M s l w) (x:aj) (hx:x.size<1000000000):dB N T en M {s with entry:=x} l (w.setCell ⟨M,18,none⟩ (.string x)):=by
 obtain ⟨h1,⟨a,S,h2,h3,h4⟩,h5,h6,h7⟩:=h
 have hB:bV M a {s with entry:=x} (w.setCell ⟨M,18,none⟩ (.string x)):=by unfold bV at h2⊢;rw [aT h2 _];rfl
 have h3':=h3.to (S':=S) (bT (w:=w) (M:=M) (i:=18) (v:=.string x)) (fun b hb=>⟨(h4 b hb).2,by have:=h4 b hb;omega⟩) (fun _ h=>h)
 exact ⟨dB.rP h1 h6 bT,⟨a,S,hB,⟨h3'.target,h3'.value,h3'.pat,h3'.params,h3'.locals,h3'.pc,h3'.lc⟩,fun b hb=>⟨(h4 b hb).1,Nat.lt_of_lt_of_le (h4 b hb).2 (bT (w:=w) (M:=M) (i:=18) (v:=.string x)).size⟩⟩,⟨h5.label,h5.target,h5.value,h5.pat,h5.name,hx,h5.params,h5.locals,h5.always,h5.yes,h5.bW⟩,h6,h7⟩
theorem dB.aao {N T en M:Nat} {s:aF} {l:List aC} {w:World} (h:dB N T en M s l w) (x:aj) (hx:x.size<1000000000):dB N T en M {s with always:=x} l (w.setCell ⟨M,21,none⟩ (.string x)):=by
 obtain ⟨h1,⟨a,S,h2,h3,h4⟩,h5,h6,h7⟩:=h
 have hB:bV M a {s with always:=x} (w.setCell ⟨M,21,none⟩ (.string x)):=by unfold bV at h2⊢;rw [aT h2 _];rfl
 have h3':=h3.to (S':=S) (bT (w:=w) (M:=M) (i:=21) (v:=.string x)) (fun b hb=>⟨(h4 b hb).2,by have:=h4 b hb;omega⟩) (fun _ h=>h)
 exact ⟨dB.rP h1 h6 bT,⟨a,S,hB,⟨h3'.target,h3'.value,h3'.pat,h3'.params,h3'.locals,h3'.pc,h3'.lc⟩,fun b hb=>⟨(h4 b hb).1,Nat.lt_of_lt_of_le (h4 b hb).2 (bT (w:=w) (M:=M) (i:=21) (v:=.string x)).size⟩⟩,⟨h5.label,h5.target,h5.value,h5.pat,h5.name,h5.entry,h5.params,h5.locals,hx,h5.yes,h5.bW⟩,h6,h7⟩
theorem dB.ag7 {N T en M:Nat} {s:aF} {l:List aC} {w:World} (h:dB N T en M s l w) (x:aj) (hx:x.size<1000000000):dB N T en M {s with yes:=x} l (w.setCell ⟨M,22,none⟩ (.string x)):=by
 obtain ⟨h1,⟨a,S,h2,h3,h4⟩,h5,h6,h7⟩:=h
 have hB:bV M a {s with yes:=x} (w.setCell ⟨M,22,none⟩ (.string x)):=by unfold bV at h2⊢;rw [aT h2 _];rfl
 have h3':=h3.to (S':=S) (bT (w:=w) (M:=M) (i:=22) (v:=.string x)) (fun b hb=>⟨(h4 b hb).2,by have:=h4 b hb;omega⟩) (fun _ h=>h)
 exact ⟨dB.rP h1 h6 bT,⟨a,S,hB,⟨h3'.target,h3'.value,h3'.pat,h3'.params,h3'.locals,h3'.pc,h3'.lc⟩,fun b hb=>⟨(h4 b hb).1,Nat.lt_of_lt_of_le (h4 b hb).2 (bT (w:=w) (M:=M) (i:=22) (v:=.string x)).size⟩⟩,⟨h5.label,h5.target,h5.value,h5.pat,h5.name,h5.entry,h5.params,h5.locals,h5.always,hx,h5.bW⟩,h6,h7⟩
theorem dB.UJ {N T en M:Nat} {s:aF} {l:List aC} {w:World} (h:dB N T en M s l w) (x:aj) (hx:x.size<1000000000):dB N T en M {s with bW:=x} l (w.setCell ⟨M,23,none⟩ (.string x)):=by
 obtain ⟨h1,⟨a,S,h2,h3,h4⟩,h5,h6,h7⟩:=h
 have hB:bV M a {s with bW:=x} (w.setCell ⟨M,23,none⟩ (.string x)):=by unfold bV at h2⊢;rw [aT h2 _];rfl
 have h3':=h3.to (S':=S) (bT (w:=w) (M:=M) (i:=23) (v:=.string x)) (fun b hb=>⟨(h4 b hb).2,by have:=h4 b hb;omega⟩) (fun _ h=>h)
 exact ⟨dB.rP h1 h6 bT,⟨a,S,hB,⟨h3'.target,h3'.value,h3'.pat,h3'.params,h3'.locals,h3'.pc,h3'.lc⟩,fun b hb=>⟨(h4 b hb).1,Nat.lt_of_lt_of_le (h4 b hb).2 (bT (w:=w) (M:=M) (i:=23) (v:=.string x)).size⟩⟩,⟨h5.label,h5.target,h5.value,h5.pat,h5.name,h5.entry,h5.params,h5.locals,h5.always,h5.yes,hx⟩,h6,h7⟩
theorem aO.few {w:World} {B e size n c:Nat} {a:Option Addr} {xs:List Value} (h:aO w B e size (.slice a n c) n xs):n≤c:=by
 rcases h.cells with ⟨_,hn⟩|⟨g,o,cap,hv,_,_,h1,_⟩
 ·omega
 ·simp only [Value.slice.injEq,true_and] at hv
  obtain ⟨_,rfl⟩:=hv
  exact h1
theorem dB.aap {N T en M:Nat} {s:aF} {l l2:List aC} {w w2:World} (h:dB N T en M s l w) (hk:Kept (· = N) w w2) (hr:bZ N T en l2 0 w2) (hl:l2.length≤l.length) {ns:List aj} {na:Option Addr} {nc:Nat} (hw:aO w2 w.heap.size 9 1 (.slice na ns.length nc) ns.length (jI ns)) (hx:ns.length<1000000000∧∀x∈ns,x.size<1000000000) :
  dB N T en M {s with params:=ns} l2 (w2.setCell ⟨M,19,none⟩ (.slice na ns.length nc)):=by
 have hM:M<w.heap.size:=by obtain ⟨a,S,h2,_⟩:=h.st;exact h2.lt
 obtain ⟨h1,⟨a,S,h2,h3,h4⟩,h5,h6,h7⟩:=h.aS hk hr hl
 have hB:bV M {a with ma:=na,mc:=nc} {s with params:=ns} (w2.setCell ⟨M,19,none⟩ (.slice na ns.length nc)):=by unfold bV at h2⊢;rw [aT h2 _];rfl
 have kM:=bT (w:=w2) (M:=M) (i:=19) (v:=.slice na ns.length nc)
 have h3':=h3.to (S':=fun b=>S b∨(Value.slice na ns.length nc).ownBlock=some b) kM (fun b hb=>⟨(h4 b hb).2,by have:=h4 b hb;omega⟩) (fun _ h=>.inl h)
 have x3:aQ (w2.setCell ⟨M,19,none⟩ (.slice na ns.length nc)) (fun b=>S b∨(Value.slice na ns.length nc).ownBlock=some b) na ns:=by
  intro h0
  rcases hw.cells with ⟨_,hn⟩|⟨g,o,c',hv,hg1,hg2,_,_,hc⟩
  ·omega
  ·simp only [Value.slice.injEq,true_and] at hv
   obtain ⟨rfl,rfl⟩:=hv
   exact ⟨g,o,rfl,.inr rfl,fun j hj=>(kM.cell hg2 (by omega)).trans (hc j _ (by simp [jI,hj])).1⟩
 refine ⟨dB.rP h1 h6 kM,⟨_,_,hB,⟨h3'.target,h3'.value,h3'.pat,x3,h3'.locals,hw.few,h3'.lc⟩,fun b hb=>?_⟩,⟨h5.label,h5.target,h5.value,h5.pat,h5.name,h5.entry,hx,h5.locals,h5.always,h5.yes,h5.bW⟩,h6,h7⟩
 rcases hb with hb|hb
 ·exact ⟨(h4 b hb).1,Nat.lt_of_lt_of_le (h4 b hb).2 kM.size⟩
 ·have:=hw.lt b hb;have:=kM.size;omega
theorem dB.LZ {N T en M:Nat} {s:aF} {l l2:List aC} {w w2:World} (h:dB N T en M s l w) (hk:Kept (· = N) w w2) (hr:bZ N T en l2 0 w2) (hl:l2.length≤l.length) {ns:List aj} {na:Option Addr} {nc:Nat} (hw:aO w2 w.heap.size 9 1 (.slice na ns.length nc) ns.length (jI ns)) (hx:ns.length<1000000000∧∀x∈ns,x.size<1000000000) :
  dB N T en M {s with locals:=ns} l2 (w2.setCell ⟨M,20,none⟩ (.slice na ns.length nc)):=by
 have hM:M<w.heap.size:=by obtain ⟨a,S,h2,_⟩:=h.st;exact h2.lt
 obtain ⟨h1,⟨a,S,h2,h3,h4⟩,h5,h6,h7⟩:=h.aS hk hr hl
 have hB:bV M {a with la:=na,lc:=nc} {s with locals:=ns} (w2.setCell ⟨M,20,none⟩ (.slice na ns.length nc)):=by unfold bV at h2⊢;rw [aT h2 _];rfl
 have kM:=bT (w:=w2) (M:=M) (i:=20) (v:=.slice na ns.length nc)
 have h3':=h3.to (S':=fun b=>S b∨(Value.slice na ns.length nc).ownBlock=some b) kM (fun b hb=>⟨(h4 b hb).2,by have:=h4 b hb;omega⟩) (fun _ h=>.inl h)
 have x3:aQ (w2.setCell ⟨M,20,none⟩ (.slice na ns.length nc)) (fun b=>S b∨(Value.slice na ns.length nc).ownBlock=some b) na ns:=by
  intro h0
  rcases hw.cells with ⟨_,hn⟩|⟨g,o,c',hv,hg1,hg2,_,_,hc⟩
  ·omega
  ·simp only [Value.slice.injEq,true_and] at hv
   obtain ⟨rfl,rfl⟩:=hv
   exact ⟨g,o,rfl,.inr rfl,fun j hj=>(kM.cell hg2 (by omega)).trans (hc j _ (by simp [jI,hj])).1⟩
 refine ⟨dB.rP h1 h6 kM,⟨_,_,hB,⟨h3'.target,h3'.value,h3'.pat,h3'.params,x3,h3'.pc,hw.few⟩,fun b hb=>?_⟩,⟨h5.label,h5.target,h5.value,h5.pat,h5.name,h5.entry,h5.params,hx,h5.always,h5.yes,h5.bW⟩,h6,h7⟩
 rcases hb with hb|hb
 ·exact ⟨(h4 b hb).1,Nat.lt_of_lt_of_le (h4 b hb).2 kM.size⟩
 ·have:=hw.lt b hb;have:=kM.size;omega
theorem dB.tJ {N T en M:Nat} {s:aF} {l:List aC} {w2:World} (h:dB N T en M s l w2) {p:aB} {ka:Option Addr} {kc:Nat} {S2:Nat→Prop} (hk2:aN w2 S2 ka p.kids) (hS2:∀b,S2 b→M<b∧b<w2.heap.size) (hz:p.text.size<1000000000∧p.name.size<1000000000∧p.kids.length<1000000000) (hx:sizeT p≤1048576) :
  dB N T en M {s with target:=p} l (((((w2.setCell ⟨M,2,none⟩ (.int .i64 p.kind)).setCell ⟨M,3,none⟩ (.string p.text)).setCell ⟨M,4,none⟩ (.int .i64 p.n)).setCell ⟨M,5,none⟩ (.string p.name)).setCell ⟨M,6,none⟩ (.slice ka p.kids.length kc)):=by
 obtain ⟨h1,⟨a,S,h2,h3,h4⟩,h5,h6,h7⟩:=h
 have hB:bV M {a with ta:=ka,tc:=kc} {s with target:=p} (((((w2.setCell ⟨M,2,none⟩ (.int .i64 p.kind)).setCell ⟨M,3,none⟩ (.string p.text)).setCell ⟨M,4,none⟩ (.int .i64 p.n)).setCell ⟨M,5,none⟩ (.string p.name)).setCell ⟨M,6,none⟩ (.slice ka p.kids.length kc)):=by unfold bV at h2⊢;rw [aT (aT (aT (aT (aT h2 _) _) _) _) _];rfl
 have kM:Kept (· = M) w2 (((((w2.setCell ⟨M,2,none⟩ (.int .i64 p.kind)).setCell ⟨M,3,none⟩ (.string p.text)).setCell ⟨M,4,none⟩ (.int .i64 p.n)).setCell ⟨M,5,none⟩ (.string p.name)).setCell ⟨M,6,none⟩ (.slice ka p.kids.length kc)):=((((bT).trans bT).trans bT).trans bT).trans bT
 have h3':=h3.to (S':=fun b=>S b∨S2 b) kM (fun b hb=>⟨(h4 b hb).2,by have:=h4 b hb;omega⟩) (fun _ h=>.inl h)
 have x3:=hk2.to (S':=fun b=>S b∨S2 b) kM (fun b hb=>⟨(hS2 b hb).2,by have:=hS2 b hb;omega⟩) (fun _ h=>.inr h)
 refine ⟨dB.rP h1 h6 kM,⟨_,_,hB,⟨x3,h3'.value,h3'.pat,h3'.params,h3'.locals,h3'.pc,h3'.lc⟩,fun b hb=>?_⟩,⟨h5.label,⟨hz,hx⟩,h5.value,h5.pat,h5.name,h5.entry,h5.params,h5.locals,h5.always,h5.yes,h5.bW⟩,h6,h7⟩
 have:=kM.size
 rcases hb with hb|hb
 ·have:=h4 b hb;omega
 ·have:=hS2 b hb;omega
theorem dB.setValue {N T en M:Nat} {s:aF} {l:List aC} {w2:World} (h:dB N T en M s l w2) {p:aB} {ka:Option Addr} {kc:Nat} {S2:Nat→Prop} (hk2:aN w2 S2 ka p.kids) (hS2:∀b,S2 b→M<b∧b<w2.heap.size) (hz:p.text.size<1000000000∧p.name.size<1000000000∧p.kids.length<1000000000) (hx:sizeT p≤1048576) :
  dB N T en M {s with value:=p} l (((((w2.setCell ⟨M,7,none⟩ (.int .i64 p.kind)).setCell ⟨M,8,none⟩ (.string p.text)).setCell ⟨M,9,none⟩ (.int .i64 p.n)).setCell ⟨M,10,none⟩ (.string p.name)).setCell ⟨M,11,none⟩ (.slice ka p.kids.length kc)):=by
 obtain ⟨h1,⟨a,S,h2,h3,h4⟩,h5,h6,h7⟩:=h
 have hB:bV M {a with va:=ka,vc:=kc} {s with value:=p} (((((w2.setCell ⟨M,7,none⟩ (.int .i64 p.kind)).setCell ⟨M,8,none⟩ (.string p.text)).setCell ⟨M,9,none⟩ (.int .i64 p.n)).setCell ⟨M,10,none⟩ (.string p.name)).setCell ⟨M,11,none⟩ (.slice ka p.kids.length kc)):=by unfold bV at h2⊢;rw [aT (aT (aT (aT (aT h2 _) _) _) _) _];rfl
 have kM:Kept (· = M) w2 (((((w2.setCell ⟨M,7,none⟩ (.int .i64 p.kind)).setCell ⟨M,8,none⟩ (.string p.text)).setCell ⟨M,9,none⟩ (.int .i64 p.n)).setCell ⟨M,10,none⟩ (.string p.name)).setCell ⟨M,11,none⟩ (.slice ka p.kids.length kc)):=((((bT).trans bT).trans bT).trans bT).trans bT
 have h3':=h3.to (S':=fun b=>S b∨S2 b) kM (fun b hb=>⟨(h4 b hb).2,by have:=h4 b hb;omega⟩) (fun _ h=>.inl h)
 have x3:=hk2.to (S':=fun b=>S b∨S2 b) kM (fun b hb=>⟨(hS2 b hb).2,by have:=hS2 b hb;omega⟩) (fun _ h=>.inr h)
 refine ⟨dB.rP h1 h6 kM,⟨_,_,hB,⟨h3'.target,x3,h3'.pat,h3'.params,h3'.locals,h3'.pc,h3'.lc⟩,fun b hb=>?_⟩,⟨h5.label,h5.target,⟨hz,hx⟩,h5.pat,h5.name,h5.entry,h5.params,h5.locals,h5.always,h5.yes,h5.bW⟩,h6,h7⟩
 have:=kM.size
 rcases hb with hb|hb
 ·have:=h4 b hb;omega
 ·have:=hS2 b hb;omega
theorem dB.aaq {N T en M:Nat} {s:aF} {l:List aC} {w2:World} (h:dB N T en M s l w2) {p:aB} {ka:Option Addr} {kc:Nat} {S2:Nat→Prop} (hk2:aN w2 S2 ka p.kids) (hS2:∀b,S2 b→M<b∧b<w2.heap.size) (hz:p.text.size<1000000000∧p.name.size<1000000000∧p.kids.length<1000000000) (hx:sizeT p≤1048576) :
  dB N T en M {s with pat:=p} l (((((w2.setCell ⟨M,12,none⟩ (.int .i64 p.kind)).setCell ⟨M,13,none⟩ (.string p.text)).setCell ⟨M,14,none⟩ (.int .i64 p.n)).setCell ⟨M,15,none⟩ (.string p.name)).setCell ⟨M,16,none⟩ (.slice ka p.kids.length kc)):=by
 obtain ⟨h1,⟨a,S,h2,h3,h4⟩,h5,h6,h7⟩:=h
 have hB:bV M {a with pa:=ka,pc:=kc} {s with pat:=p} (((((w2.setCell ⟨M,12,none⟩ (.int .i64 p.kind)).setCell ⟨M,13,none⟩ (.string p.text)).setCell ⟨M,14,none⟩ (.int .i64 p.n)).setCell ⟨M,15,none⟩ (.string p.name)).setCell ⟨M,16,none⟩ (.slice ka p.kids.length kc)):=by unfold bV at h2⊢;rw [aT (aT (aT (aT (aT h2 _) _) _) _) _];rfl
 have kM:Kept (· = M) w2 (((((w2.setCell ⟨M,12,none⟩ (.int .i64 p.kind)).setCell ⟨M,13,none⟩ (.string p.text)).setCell ⟨M,14,none⟩ (.int .i64 p.n)).setCell ⟨M,15,none⟩ (.string p.name)).setCell ⟨M,16,none⟩ (.slice ka p.kids.length kc)):=((((bT).trans bT).trans bT).trans bT).trans bT
 have h3':=h3.to (S':=fun b=>S b∨S2 b) kM (fun b hb=>⟨(h4 b hb).2,by have:=h4 b hb;omega⟩) (fun _ h=>.inl h)
 have x3:=hk2.to (S':=fun b=>S b∨S2 b) kM (fun b hb=>⟨(hS2 b hb).2,by have:=hS2 b hb;omega⟩) (fun _ h=>.inr h)
 refine ⟨dB.rP h1 h6 kM,⟨_,_,hB,⟨h3'.target,h3'.value,x3,h3'.params,h3'.locals,h3'.pc,h3'.lc⟩,fun b hb=>?_⟩,⟨h5.label,h5.target,h5.value,⟨hz,hx⟩,h5.name,h5.entry,h5.params,h5.locals,h5.always,h5.yes,h5.bW⟩,h6,h7⟩
 have:=kM.size
 rcases hb with hb|hb
 ·have:=h4 b hb;omega
 ·have:=hS2 b hb;omega
theorem L6 (l:List aB) (j:Nat) (hj:j<l.length):oG (l.take (j+1))=max (oG (l.take j)) (oH l[j]):=by
 induction l generalizing j with
 | nil=>simp at hj
 | cons p ps ih =>
  cases j with
  | zero=>simp [oG]
  | succ j=>simp only [List.take_succ_cons,oG,List.getElem_cons_succ];rw [ih j (by simpa using hj)];omega
mutual
theorem GU:∀p:aB,oH p≤sizeT p
 | .mk k t n nm kids=>by rw [oH,sizeT];have:=zC kids;omega
theorem zC:∀l:List aB,oG l≤bP l
 | []=>Nat.le_refl _
 | p::ps=>by rw [oG,bP];have:=GU p;have:=zC ps;omega
end
theorem Qk (l:List aB) (j:Nat):oG (l.take j)≤bP l:=Nat.le_trans (zC _) (Xp l j)
theorem L9:∀(n:Nat) (p:aB) (b o:Nat) (S:Nat→Prop) (w:World),sizeT p≤n→n≤100000000→aX w S b o p→Calls Tryz.prog 57 #[.pointer (some ⟨b,o,none⟩)] w (wW (oH p) w):=by
 intro n
 induction n with
 | zero=>intro p b o S w hn _ _;obtain ⟨k,t,m,nm,kids⟩:=p;simp [sizeT] at hn
 | succ n ih =>
  intro p b o S w hn hmax hp
  obtain ⟨k,t,m,nm,kids⟩:=p
  obtain ⟨hSb,hz,c0,c1,c2,c3,ka,cap,c4,hk⟩:=hp.open
  have hks:bP kids≤n:=by rw [sizeT] at hn;omega
  have hkl:kids.length<1000000000:=hz.2.2
  dsimp only [aB.kids] at c4 hk
  have HIH:=ah ih;have HK:=ah hk;have Yi:=ah hks
  have HD:Hid (oH (.mk k t m nm kids)=oG kids+1):=rfl
  clear hp hz hk hn ih
  go_enter Tryz.func57, Tryz.ntmps57
  go_wp2_with fail
  go_loopw [10,3] (fun x y wr=>∃j:Nat,j≤kids.length∧x=.int .i64 j∧y=.int .i64 ((oG (kids.take j):Nat):Int)∧wr=w) (fun x _ _=>kids.length-(intOf x).toNat)
  case atStart=>exact ⟨0,Nat.zero_le _,rfl,rfl,rfl⟩
  case round =>
   obtain ⟨j,hj,rfl,rfl,rfl⟩:=hrel
   by_cases hlt:j<kids.length
   ·have hb1:decide ((j:Int)<(kids.length:Int))=true:=ak (by omega)
    have hb2:decide (j<kids.length)=true:=ak hlt
    obtain ⟨kb,ko,rfl⟩:=oU HK.out (by omega)
    have hC:=ah (HIH.out kids[j] kb (ko+j*5) S _ (by have:=pI kids j hlt;have:=Yi.out;omega) (by omega) (nZ kids kb ko j hlt HK.out))
    have hmx:((max (oG (kids.take j)) (oH kids[j]):Nat):Int)=((oG (kids.take (j+1)):Nat):Int):=by rw [L6 kids j hlt]
    have ajU:max ((oG (kids.take j):Nat):Int) ((oH kids[j]:Nat):Int)=((oG (kids.take (j+1)):Nat):Int):=by rw [L6 kids j hlt];omega
    have hd1:oG (kids.take j)≤100000000:=Nat.le_trans (Qk kids j) (by have:=Yi.out;omega)
    obtain ⟨x,hx⟩:∃x,x=oG (kids.take j):=⟨_,rfl⟩
    obtain ⟨y,hy⟩:∃y,y=oH kids[j]:=⟨_,rfl⟩
    obtain ⟨z,hzz⟩:∃z,z=oG (kids.take (j+1)):=⟨_,rfl⟩
    rw [←hy] at hC
    rw [←hx,←hy,←hzz] at ajU
    rw [←hx] at hd1⊢
    have HZZ:=ah hzz
    clear hmx hx hy hzz
    go_wp2_with (go_at_call 57;(refine hC.out.mono ?_);rintro e w' ⟨rfl,aI⟩;obtain rfl:=aI)
    go_roundw
    case measure=>simp [intOf];omega
    case rel=>exact ⟨j+1,by omega,by go_num,by rw [HZZ.out],trivial⟩
   ·obtain rfl:j=kids.length:=by omega
    have hb1:decide ((kids.length:Int)<(kids.length:Int))=false:=au (by omega)
    have hb2:decide (kids.length<kids.length)=false:=au (by omega)
    have hd1:oG kids≤100000000:=Nat.le_trans (zC kids) (by have:=Yi.out;omega)
    rw [List.take_length]
    go_wp2_with fail
    go_ret
    exact ⟨by rw [HD.out];rfl,rfl⟩
end Go.Proofs.YtgoijmpahffnhaaGreatDoor

namespace Go.Proofs.YtgoijmpahffnhaaGreatDoor
set_option linter.all false
open Go.RowKit
set_option maxRecDepth 100000
set_option maxHeartbeats 8000000
def st1 (lb:aj):aF:={st0 with label:=lb}
theorem dB.slot {N T en M:Nat} {s:aF} {l:List aC} {w:World} (h:dB N T en M s l w) (i:Nat) (hi:i<24):∃v,w.cell? ⟨M,i,none⟩=some v∧w.frozen? ⟨M,i,none⟩=false:=by
 obtain ⟨a,S,hB,_⟩:=h.st
 have hf:=hB.free i
 unfold bV at hB
 refine ⟨(bQ a s)[i]'(by simpa [bQ] using hi),?_,hf⟩
 ·rw [cell_of_row w M i _ _ _ hB]
  have e:∀(j:Nat) (hj:j<(bQ a s).length),(bQ a s).toArray[j]?=some (bQ a s)[j]:=fun j hj=>by simp [hj]
  exact e i (by simpa [bQ] using hi)
theorem dB.UK {N T en M:Nat} {s:aF} {l:List aC} {w:World} (h:dB N T en M s l w):M<w.heap.size:=by obtain ⟨a,S,h2,_⟩:=h.st;exact h2.lt
theorem fA {N M:Nat} {w w2:World} (h:Kept (· = M) w w2):Kept (fun b=>b=N∨b=M) w w2:=h.more fun _ h=>.inr h
theorem fO {N M:Nat} {w w2:World} (h:Kept (· = N) w w2):Kept (fun b=>b=N∨b=M) w w2:=h.more fun _ h=>.inl h
theorem adb {c:Option aj} {en:Nat}:∀(f:Nat) (ns:List aj) (l:List aC) (IV:List aj) (r:List aC),namesT c en f ns l=.ok (IV,r)→(∀x∈ns,x.size≤16)→(∀x∈IV,x.size≤16)∧IV.length≤ns.length+f∧r.length≤l.length:=by
 intro f
 induction f with
 | zero=>intro ns l IV r h hx;simp only [namesT,Except.ok.injEq,Prod.mk.injEq] at h;obtain ⟨rfl,rfl⟩:=h;exact ⟨hx,by omega,by omega⟩
 | succ f ih =>
  intro ns l IV r h hx
  rw [namesT] at h
  split at h
  ·cases h
  ·split at h
   ·cases h
   ·next n r1 hn =>
    have hnl:=jZ hn
    have hx2:∀x∈ns++[n],x.size≤16:=by
     intro x hm
     rcases List.mem_append.1 hm with hm|hm
     ·exact hx x hm
     ·rw [List.mem_singleton.1 hm];exact iG hn
    have hl2:(ns++[n]).length=ns.length+1:=by simp
    split at h
    ·split at h
     ·next hs=>simp only [Except.ok.injEq,Prod.mk.injEq] at h;obtain ⟨rfl,rfl⟩:=h;have:=gX hs;exact ⟨hx2,by omega,by omega⟩
     ·split at h
      ·cases h
      ·next r2 hd =>
       obtain ⟨a,b,c⟩:=ih _ _ _ _ h hx2
       have:=nP hd
       exact ⟨a,by omega,by omega⟩
    ·split at h
     ·next hs=>obtain ⟨a,b,c⟩:=ih _ _ _ _ h hx2;have:=gX hs;exact ⟨a,by omega,by omega⟩
     ·simp only [Except.ok.injEq,Prod.mk.injEq] at h;obtain ⟨rfl,rfl⟩:=h;exact ⟨hx2,by omega,by omega⟩
theorem Em {c:Option aj} {en:Nat} {l:List aC} {IV:List aj} {r:List aC} (h:namesT c en 9 [] l=.ok (IV,r)):(IV.length<1000000000∧∀x∈IV,x.size<1000000000)∧r.length≤l.length:=by
 obtain ⟨a,b,c⟩:=adb _ _ _ _ _ h (fun x hx=>by cases hx)
 simp only [List.length_nil] at b
 exact ⟨⟨by omega,fun x hx=>by have:=a x hx;omega⟩,c⟩
theorem IW:([44]:List UInt8)=(⟨#[44]⟩:aj).toList:=by rw [ByteArray.toList_eq]
theorem tu.second {N T en n c d:Nat} {o:Nat} {t u:aC} {r:List aC} {w:World} (h:tu N T en n (some ⟨T,o,none⟩) c (t::u::r) d w):w.cell? ⟨T,o+3,none⟩=some (.int .i64 u.kind)∧w.cell? ⟨T,o+4,none⟩=some (.string u.text):=by
 obtain ⟨o',e,hc⟩:=h.toks (by simp)
 simp only [Option.some.injEq,Addr.mk.injEq,true_and,and_true] at e
 subst e
 have e2:jV (t::u::r)=Eb t++(Eb u++jV r):=by simp [jV]
 rw [e2] at hc
 exact ⟨hc 3 _ rfl,hc 4 _ rfl⟩
theorem FP {N T en M:Nat} {lb:aj} {l:List aC} {w:World} (h:dB N T en M (st1 lb) l w):Calls Tryz.prog 87 #[.pointer (some ⟨N,0,none⟩),.pointer (some ⟨M,0,none⟩)] w (dD N T en M (dZ en (st1 lb) l) w):=by
 obtain ⟨v1,c1,f1⟩:=h.slot 1 (by decide)
 obtain ⟨w1,hw1⟩:∃w1,w1=w.setCell ⟨M,1,none⟩ (.int .i64 7):=⟨_,rfl⟩
 have I1:=h.setKind 7
 have K1:Kept (fun b=>b=N∨b=M) w (w.setCell ⟨M,1,none⟩ (.int .i64 7)):=fA bT
 rw [←hw1] at I1 K1
 have I1:=ah I1;have K1:=ah K1;have HW1:=ah hw1
 clear h hw1
 go_enter Tryz.func87, Tryz.ntmps87
 go_upto_region 1 with fail
 rw [←HW1.out]
 clear c1 f1
 go_upto_region 2 with (go_at_call 50;(refine (fD I1.out.bI).mono ?_);intro e w2 h_;rcases hu:dN en l with e0|⟨nm,r1⟩;(obtain ⟨k_,rfl⟩:=h_.bad hu;have f_:dD N T en M (dZ en (st1 lb) l) w (.panicked [{v:=bK e0,recovered:=false}]) _:=dD.thrown K1.out k_ (by unfold dZ;simp only [hu,if_true,if_false,Bool.false_eq_true]);exact ⟨rfl,f_⟩);(obtain ⟨k_,rfl,r_⟩:=h_.ok hu;have mO:=ah hu;have I2:=ah (I1.out.aS k_ r_ (by have:=jZ hu;omega));have K2:=ah (K1.out.trans (fO k_));obtain ⟨v17,c17,f17⟩:=I2.out.slot 17 (by decide);clear k_ r_ h_ hu))
 have I3:=ah (I2.out.setName nm (by have:=iG mO.out;omega))
 have K3:=ah (K2.out.trans (fA (bT (w:=w2) (M:=M) (i:=17) (v:=.string nm))))
 obtain ⟨w3,hw3⟩:∃w3,w3=w2.setCell ⟨M,17,none⟩ (.string nm):=⟨_,rfl⟩
 rw [←hw3] at I3 K3
 rw [←hw3]
 clear hw3 c17 f17
 go_upto_region 3 with (go_at_call 88;(refine (jf (bs [40]) I3.out.bI).mono ?_);intro e w4 h_;rcases hu:dX (bs [40]) en r1 with e0|r2;(obtain ⟨k_,rfl⟩:=h_.bad hu;have f_:dD N T en M (dZ en (st1 lb) l) w (.panicked [{v:=bK e0,recovered:=false}]) _:=dD.thrown K3.out k_ (by unfold dZ;simp only [mO.out,hu,if_true,if_false,Bool.false_eq_true]);exact ⟨rfl,f_⟩);(obtain ⟨k_,rfl,r_⟩:=h_.ok hu;have zD:=ah hu;have I4:=ah (I3.out.aS k_ r_ (by have:=nP hu;omega));have K4:=ah (K3.out.trans (fO k_));clear k_ r_ h_ hu))
 cases hs:aG ⟨#[41]⟩ r2 with
 | true =>
  have HS:Hid (aG (bs [41]) r2=true):=hs
  go_upto_region 5 with (go_at_call 53;(with_reducible refine (jG ⟨#[41]⟩ I4.out.bI hs).mono ?_);rintro e w5 ⟨rfl,r_,k_⟩;have I5:=ah (I4.out.aS k_ r_ (by have:=gX hs;omega));have K5:=ah (K4.out.trans (fO k_));clear r_ k_)
  obtain ⟨r5,hr5⟩:∃r5,r5=r2.tail:=⟨_,rfl⟩
  have HR5:Hid (r2.tail=r5):=hr5.symm
  rw [←hr5] at I5
  clear hr5
  obtain ⟨nq,aq,cq,hq⟩:=I5.out.bI
  go_cut [57] (fun c wx=>c=.bool (iR r5)∧wx=w5)
  case first =>
   obtain ⟨c0,c1,cd,cf⟩:=hq.c0
   have hn:=hq.num
   rcases r5 with _|⟨t,_|⟨u,r9⟩⟩
   ·have z:decide ((1:Int)<(nq:Int))=false:=by rw [hn];rfl
    have z':decide (1<nq)=false:=by rw [hn];rfl
    clear hn hq cf
    go_wp2_with fail
    go_meet
    exact ⟨rfl,rfl⟩
   ·have z:decide ((1:Int)<(nq:Int))=false:=by rw [hn];rfl
    have z':decide (1<nq)=false:=by rw [hn];rfl
    clear hn hq cf
    go_wp2_with fail
    go_meet
    exact ⟨rfl,rfl⟩
   ·rw [List.length_cons,List.length_cons] at hn
    have h0:1<nq:=by omega
    have h1:(1:Int)<(nq:Int):=by omega
    have z:decide ((1:Int)<(nq:Int))=true:=ak h1
    have z':decide (1<nq)=true:=ak h0
    obtain ⟨o,rfl,t0,t1,t2⟩:=hq.head
    obtain ⟨u0,u1⟩:=hq.second
    clear hn hq cf
    by_cases hk1:u.kind=1
    ·have y:(u.kind==1)=true:=by simpa using hk1
     have fin:Hid (iR (t::u::r9)=true):=by show (decide (u.kind=1)||decide (u.kind=5∧u.text=bs [44]))=_;rw [ak hk1];rfl
     clear hk1
     go_wp2_with fail
     go_meet
     exact ⟨by rw [fin.out],rfl⟩
    ·have y:(u.kind==1)=false:=by simpa using hk1
     by_cases hk5:u.kind=5
     ·have y5:(u.kind==5)=true:=by simpa using hk5
      by_cases hx:u.text=bs [44]
      ·have y2:(u.text.toList==[44])=true:=by rw [IW,cu];exact ak hx
       have fin:Hid (iR (t::u::r9)=true):=by show (decide (u.kind=1)||decide (u.kind=5∧u.text=bs [44]))=_;rw [ak (p:=u.kind=5∧_) ⟨hk5,hx⟩,Bool.or_true]
       clear hk1 hk5 hx
       go_wp2_with fail
       go_meet
       exact ⟨by rw [fin.out],rfl⟩
      ·have y2:(u.text.toList==[44])=false:=by rw [IW,cu];exact au hx
       have fin:Hid (iR (t::u::r9)=false):=by show (decide (u.kind=1)||decide (u.kind=5∧u.text=bs [44]))=_;rw [au hk1,au (p:=u.kind=5∧_) (fun h=>hx h.2)];rfl
       clear hk1 hk5 hx
       go_wp2_with fail
       go_meet
       exact ⟨by rw [fin.out],rfl⟩
     ·have y5:(u.kind==5)=false:=by simpa using hk5
      have fin:Hid (iR (t::u::r9)=false):=by show (decide (u.kind=1)||decide (u.kind=5∧u.text=bs [44]))=_;rw [au hk1,au (p:=u.kind=5∧_) (fun h=>hk5 h.1)];rfl
      clear hk1 hk5
      go_wp2_with fail
      go_meet
      exact ⟨by rw [fin.out],rfl⟩
  case rest =>
   obtain ⟨rfl,rfl⟩:=hcut
   have HW:=ah hq
   clear hq
   cases hc:iR r5 with
   | false =>
    go_wp2_with (go_at_call 50;(refine (fD I5.out.bI).mono ?_);intro e Ql h_;rcases hu:dN en r5 with e0|⟨En,r4⟩;(obtain ⟨k_,rfl⟩:=h_.bad hu;have f_:dD N T en M (dZ en (st1 lb) l) w (.panicked [{v:=bK e0,recovered:=false}]) _:=dD.thrown K5.out k_ (by unfold dZ;simp only [mO.out,zD.out,HS.out,HR5.out,hc,hu,if_true,if_false,Bool.false_eq_true]);exact ⟨rfl,f_⟩);(obtain ⟨k_,rfl,r_⟩:=h_.ok hu;have Eo:=ah hu;have I30:=ah (I5.out.aS k_ r_ (by have:=jZ hu;omega));have Qm:=ah (K5.out.trans (fO k_));obtain ⟨v18,c18,f18⟩:=I30.out.slot 18 (by decide);clear k_ r_ h_ hu))
    (first|go_end0|(refine bodyPost_ret (results_none rfl _ _ _) rfl ?_))
    exact dD.done (Qm.out.trans (fA (bT (w:=Ql) (M:=M) (i:=18) (v:=.string En)))) (I30.out.Cb En (by have:=iG Eo.out;omega)) (by unfold dZ;simp only [mO.out,zD.out,HS.out,HR5.out,hc,Eo.out,if_true,if_false,Bool.false_eq_true];try rfl)
   | true =>
    go_upto_region 7 with (go_at_call 127;(refine (FM I5.out.bI).mono ?_);intro e IX h_;rcases hu:namesT none en 9 [] r5 with e0|⟨ls,r3⟩;(obtain ⟨k_,rfl⟩:=h_.bad hu;have f_:dD N T en M (dZ en (st1 lb) l) w (.panicked [{v:=bK e0,recovered:=false}]) _:=dD.thrown K5.out k_ (by unfold dZ;simp only [mO.out,zD.out,HS.out,HR5.out,hc,hu,if_true,if_false,Bool.false_eq_true]);exact ⟨rfl,f_⟩);(obtain ⟨k_,r_,la,lc,rfl,aI⟩:=h_.ok hu;have IY:=ah hu;have LN:=ah (Em hu);have I21:=ah (I5.out.aS k_ r_ LN.out.2);have I22:=ah (I5.out.LZ k_ r_ LN.out.2 aI LN.out.1);have Aq:=ah (K5.out.trans (fO k_));obtain ⟨v20,c20,f20⟩:=I21.out.slot 20 (by decide);clear k_ r_ h_ hu aI))
    have K22:=ah (Aq.out.trans (fA (bT (w:=IX) (M:=M) (i:=20) (v:=.slice la ls.length lc))))
    obtain ⟨FQ,GV⟩:∃FQ,FQ=IX.setCell ⟨M,20,none⟩ (.slice la ls.length lc):=⟨_,rfl⟩
    rw [←GV] at I22 K22
    rw [←GV]
    clear GV c20 f20
    go_wp2_with (go_at_call 50;(refine (fD I22.out.bI).mono ?_);intro e Ql h_;rcases hu:dN en r3 with e0|⟨En,r4⟩;(obtain ⟨k_,rfl⟩:=h_.bad hu;have f_:dD N T en M (dZ en (st1 lb) l) w (.panicked [{v:=bK e0,recovered:=false}]) _:=dD.thrown K22.out k_ (by unfold dZ;simp only [mO.out,zD.out,HS.out,HR5.out,hc,IY.out,hu,if_true,if_false,Bool.false_eq_true]);exact ⟨rfl,f_⟩);(obtain ⟨k_,rfl,r_⟩:=h_.ok hu;have Eo:=ah hu;have I30:=ah (I22.out.aS k_ r_ (by have:=jZ hu;omega));have Qm:=ah (K22.out.trans (fO k_));obtain ⟨v18,c18,f18⟩:=I30.out.slot 18 (by decide);clear k_ r_ h_ hu))
    (first|go_end0|(refine bodyPost_ret (results_none rfl _ _ _) rfl ?_))
    exact dD.done (Qm.out.trans (fA (bT (w:=Ql) (M:=M) (i:=18) (v:=.string En)))) (I30.out.Cb En (by have:=iG Eo.out;omega)) (by unfold dZ;simp only [mO.out,zD.out,HS.out,HR5.out,hc,IY.out,Eo.out,if_true,if_false,Bool.false_eq_true];try rfl)
 | false =>
  have HS:Hid (aG (bs [41]) r2=false):=hs
  go_upto_region 4 with (go_at_call 53;(with_reducible refine (dY ⟨#[41]⟩ I4.out.bI hs).mono ?_);rintro e w5 ⟨rfl,r_,k_⟩;have I5:=ah (I4.out.aS k_ r_ (Nat.le_refl _));have K5:=ah (K4.out.trans (fO k_));clear r_ k_)
  go_upto_region 5 with (go_at_call 127;(refine (Qj I5.out.bI).mono ?_);intro e w6 h_;rcases hu:namesT (some (bs [41])) en 9 [] r2 with e0|⟨ps,r5⟩;(obtain ⟨k_,rfl⟩:=h_.bad hu;have f_:dD N T en M (dZ en (st1 lb) l) w (.panicked [{v:=bK e0,recovered:=false}]) _:=dD.thrown K5.out k_ (by unfold dZ;simp only [mO.out,zD.out,HS.out,hu,if_true,if_false,Bool.false_eq_true]);exact ⟨rfl,f_⟩);(obtain ⟨k_,r_,pa,pc,rfl,aI⟩:=h_.ok hu;have C9:=ah hu;have LN:=ah (Em hu);have I6:=ah (I5.out.aS k_ r_ LN.out.2);have I7:=ah (I5.out.aap k_ r_ LN.out.2 aI LN.out.1);have K6:=ah (K5.out.trans (fO k_));obtain ⟨v19,c19,f19⟩:=I6.out.slot 19 (by decide);clear k_ r_ h_ hu aI))
  have K7:=ah (K6.out.trans (fA (bT (w:=w6) (M:=M) (i:=19) (v:=.slice pa ps.length pc))))
  obtain ⟨w7,hw7⟩:∃w7,w7=w6.setCell ⟨M,19,none⟩ (.slice pa ps.length pc):=⟨_,rfl⟩
  rw [←hw7] at I7 K7
  rw [←hw7]
  clear hw7 c19 f19
  obtain ⟨nq,aq,cq,hq⟩:=I7.out.bI
  go_cut [57] (fun c wx=>c=.bool (iR r5)∧wx=w7)
  case first =>
   obtain ⟨c0,c1,cd,cf⟩:=hq.c0
   have hn:=hq.num
   rcases r5 with _|⟨t,_|⟨u,r9⟩⟩
   ·have z:decide ((1:Int)<(nq:Int))=false:=by rw [hn];rfl
    have z':decide (1<nq)=false:=by rw [hn];rfl
    clear hn hq cf
    go_wp2_with fail
    go_meet
    exact ⟨rfl,rfl⟩
   ·have z:decide ((1:Int)<(nq:Int))=false:=by rw [hn];rfl
    have z':decide (1<nq)=false:=by rw [hn];rfl
    clear hn hq cf
    go_wp2_with fail
    go_meet
    exact ⟨rfl,rfl⟩
   ·rw [List.length_cons,List.length_cons] at hn
    have h0:1<nq:=by omega
    have h1:(1:Int)<(nq:Int):=by omega
    have z:decide ((1:Int)<(nq:Int))=true:=ak h1
    have z':decide (1<nq)=true:=ak h0
    obtain ⟨o,rfl,t0,t1,t2⟩:=hq.head
    obtain ⟨u0,u1⟩:=hq.second
    clear hn hq cf
    by_cases hk1:u.kind=1
    ·have y:(u.kind==1)=true:=by simpa using hk1
     have fin:Hid (iR (t::u::r9)=true):=by show (decide (u.kind=1)||decide (u.kind=5∧u.text=bs [44]))=_;rw [ak hk1];rfl
     clear hk1
     go_wp2_with fail
     go_meet
     exact ⟨by rw [fin.out],rfl⟩
    ·have y:(u.kind==1)=false:=by simpa using hk1
     by_cases hk5:u.kind=5
     ·have y5:(u.kind==5)=true:=by simpa using hk5
      by_cases hx:u.text=bs [44]
      ·have y2:(u.text.toList==[44])=true:=by rw [IW,cu];exact ak hx
       have fin:Hid (iR (t::u::r9)=true):=by show (decide (u.kind=1)||decide (u.kind=5∧u.text=bs [44]))=_;rw [ak (p:=u.kind=5∧_) ⟨hk5,hx⟩,Bool.or_true]
       clear hk1 hk5 hx
       go_wp2_with fail
       go_meet
       exact ⟨by rw [fin.out],rfl⟩
      ·have y2:(u.text.toList==[44])=false:=by rw [IW,cu];exact au hx
       have fin:Hid (iR (t::u::r9)=false):=by show (decide (u.kind=1)||decide (u.kind=5∧u.text=bs [44]))=_;rw [au hk1,au (p:=u.kind=5∧_) (fun h=>hx h.2)];rfl
       clear hk1 hk5 hx
       go_wp2_with fail
       go_meet
       exact ⟨by rw [fin.out],rfl⟩
     ·have y5:(u.kind==5)=false:=by simpa using hk5
      have fin:Hid (iR (t::u::r9)=false):=by show (decide (u.kind=1)||decide (u.kind=5∧u.text=bs [44]))=_;rw [au hk1,au (p:=u.kind=5∧_) (fun h=>hk5 h.1)];rfl
      clear hk1 hk5
      go_wp2_with fail
      go_meet
      exact ⟨by rw [fin.out],rfl⟩
  case rest =>
   obtain ⟨rfl,rfl⟩:=hcut
   have HW:=ah hq
   clear hq
   cases hc:iR r5 with
   | false =>
    go_wp2_with (go_at_call 50;(refine (fD I7.out.bI).mono ?_);intro e Ql h_;rcases hu:dN en r5 with e0|⟨En,r4⟩;(obtain ⟨k_,rfl⟩:=h_.bad hu;have f_:dD N T en M (dZ en (st1 lb) l) w (.panicked [{v:=bK e0,recovered:=false}]) _:=dD.thrown K7.out k_ (by unfold dZ;simp only [mO.out,zD.out,HS.out,C9.out,hc,hu,if_true,if_false,Bool.false_eq_true]);exact ⟨rfl,f_⟩);(obtain ⟨k_,rfl,r_⟩:=h_.ok hu;have Eo:=ah hu;have I30:=ah (I7.out.aS k_ r_ (by have:=jZ hu;omega));have Qm:=ah (K7.out.trans (fO k_));obtain ⟨v18,c18,f18⟩:=I30.out.slot 18 (by decide);clear k_ r_ h_ hu))
    (first|go_end0|(refine bodyPost_ret (results_none rfl _ _ _) rfl ?_))
    exact dD.done (Qm.out.trans (fA (bT (w:=Ql) (M:=M) (i:=18) (v:=.string En)))) (I30.out.Cb En (by have:=iG Eo.out;omega)) (by unfold dZ;simp only [mO.out,zD.out,HS.out,C9.out,hc,Eo.out,if_true,if_false,Bool.false_eq_true];try rfl)
   | true =>
    go_upto_region 7 with (go_at_call 127;(refine (FM I7.out.bI).mono ?_);intro e IX h_;rcases hu:namesT none en 9 [] r5 with e0|⟨ls,r3⟩;(obtain ⟨k_,rfl⟩:=h_.bad hu;have f_:dD N T en M (dZ en (st1 lb) l) w (.panicked [{v:=bK e0,recovered:=false}]) _:=dD.thrown K7.out k_ (by unfold dZ;simp only [mO.out,zD.out,HS.out,C9.out,hc,hu,if_true,if_false,Bool.false_eq_true]);exact ⟨rfl,f_⟩);(obtain ⟨k_,r_,la,lc,rfl,aI⟩:=h_.ok hu;have IY:=ah hu;have LN:=ah (Em hu);have I21:=ah (I7.out.aS k_ r_ LN.out.2);have I22:=ah (I7.out.LZ k_ r_ LN.out.2 aI LN.out.1);have Aq:=ah (K7.out.trans (fO k_));obtain ⟨v20,c20,f20⟩:=I21.out.slot 20 (by decide);clear k_ r_ h_ hu aI))
    have K22:=ah (Aq.out.trans (fA (bT (w:=IX) (M:=M) (i:=20) (v:=.slice la ls.length lc))))
    obtain ⟨FQ,GV⟩:∃FQ,FQ=IX.setCell ⟨M,20,none⟩ (.slice la ls.length lc):=⟨_,rfl⟩
    rw [←GV] at I22 K22
    rw [←GV]
    clear GV c20 f20
    go_wp2_with (go_at_call 50;(refine (fD I22.out.bI).mono ?_);intro e Ql h_;rcases hu:dN en r3 with e0|⟨En,r4⟩;(obtain ⟨k_,rfl⟩:=h_.bad hu;have f_:dD N T en M (dZ en (st1 lb) l) w (.panicked [{v:=bK e0,recovered:=false}]) _:=dD.thrown K22.out k_ (by unfold dZ;simp only [mO.out,zD.out,HS.out,C9.out,hc,IY.out,hu,if_true,if_false,Bool.false_eq_true]);exact ⟨rfl,f_⟩);(obtain ⟨k_,rfl,r_⟩:=h_.ok hu;have Eo:=ah hu;have I30:=ah (I22.out.aS k_ r_ (by have:=jZ hu;omega));have Qm:=ah (K22.out.trans (fO k_));obtain ⟨v18,c18,f18⟩:=I30.out.slot 18 (by decide);clear k_ r_ h_ hu))
    (first|go_end0|(refine bodyPost_ret (results_none rfl _ _ _) rfl ?_))
    exact dD.done (Qm.out.trans (fA (bT (w:=Ql) (M:=M) (i:=18) (v:=.string En)))) (I30.out.Cb En (by have:=iG Eo.out;omega)) (by unfold dZ;simp only [mO.out,zD.out,HS.out,C9.out,hc,IY.out,Eo.out,if_true,if_false,Bool.false_eq_true];try rfl)
end Go.Proofs.YtgoijmpahffnhaaGreatDoor

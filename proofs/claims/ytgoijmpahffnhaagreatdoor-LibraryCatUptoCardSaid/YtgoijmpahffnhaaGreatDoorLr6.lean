/-  -/
import Derived.Test.YtgoijmpahffnhaaGreatDoorLc5
import Derived.Deep.RegionWith
namespace Go.Proofs.YtgoijmpahffnhaaGreatDoor
set_option linter.all false
open Go.RowKit
set_option maxRecDepth 100000
set_option maxHeartbeats 2000000
def EvQ (F:dQ) (ov:Value) (w:World) (r:Option aj×aY) (e:Ending) (w':World):Prop:=e=.returned (.tuple #[.string (r.1.getD ⟨#[]⟩),.bool r.1.isSome])∧∃rQ,bI F ov w rQ r.2 w'
def Tc (o:Option aj) (w:World) (e:Ending) (w':World):Prop:=e=.returned (.tuple #[.string (o.getD ⟨#[]⟩),.bool o.isSome])∧Kept aB w w'
structure Et (F:dQ) (nb:aj→Bool) (kb:Int→Bool):Prop where
 bu:∀nm,nb nm=true→∀(a:List aj) (al:Option Addr) (cl:Nat) (w:World),F.G w→bU w (· < w.heap.size) al a→aJ nm=(a.length:Int)→(∀t∈a,t.size≤65536)→Calls Tryz.prog 101 #[.string nm,.slice al a.length cl] w (Tc (xY nm a) w)
 bi:∀k,kb k=true→∀(a b:aj) (w:World),F.G w→a.size≤65536→b.size≤65536→Calls Tryz.prog 100 #[.int .i64 k,.string a,.string b] w (Tc (FB k a b) w)
 nu:kb 2=true→∀n,nJ n→∀w,F.G w→Calls Tryz.prog 99 #[.int .i64 n,.int .i64 0] w (Tc (some (mW n)) w)
theorem bg.g {F:dQ} {ov:Value} {S:aY} {w:World} (h:bg F ov S w):F.G w:=h.ql.g
theorem QV (S:aY) (n:aj):(okO (jH S n)).1.getD ⟨#[]⟩=(jH S n).1.1∧(okO (jH S n)).1.isSome=(jH S n).1.2:=by
 unfold jH okO
 split
 ·exact ⟨rfl,rfl⟩
 split
 ·split<;>exact ⟨rfl,rfl⟩
 ·exact ⟨rfl,rfl⟩
section
variable (F:dQ) (nb:aj→Bool) (kb:Int→Bool) (BH:Et F nb kb) (ov:Value) (S:aY) (Sx:Nat→Prop) (t:aj) (n:Int) (nm:aj) (kids:List aA) (b o:Nat) (w:World) (h:bg F ov S w) (hsx:∀b,Sx b→b<F.N)
include h
theorem abp (hx:aW w Sx b o (.mk 1 t n nm kids)):Calls Tryz.prog 67 #[.pointer (some ⟨F.R,0,none⟩),.pointer (some ⟨b,o,none⟩)] w (EvQ F ov w (jy (.mk 1 t n nm kids) S)):=by
 have fin:Hid (jy (.mk 1 t n nm kids) S=(some t,S)):=by unfold Hid;rw [jy,if_pos rfl]
 unfold aW at hx
 obtain ⟨_,_,q0,q1,_⟩:=hx
 have H:=ah h
 clear h
 go_enter Tryz.func67, Tryz.ntmps67
 go_wp2_with fail
 go_ret2
 exact ⟨by rw [fin.out];rfl,ov,by rw [fin.out];exact bI.refl H.out⟩
include BH in
theorem adf (hx:aW w Sx b o (.mk 2 t n nm kids)) (h2:kb 2=true) (hz:nJ n):Calls Tryz.prog 67 #[.pointer (some ⟨F.R,0,none⟩),.pointer (some ⟨b,o,none⟩)] w (EvQ F ov w (jy (.mk 2 t n nm kids) S)):=by
 have fin:Hid (jy (.mk 2 t n nm kids) S=(some (mW n),S)):=by unfold Hid;rw [jy,if_neg (by decide),if_pos rfl]
 unfold aW at hx
 obtain ⟨_,_,q0,_,q2,_⟩:=hx
 have HT:=ah (BH.nu h2 n hz w h.g)
 have H:=ah h
 clear h hz
 go_enter Tryz.func67, Tryz.ntmps67
 go_wp2_with (go_at_call 99;(with_reducible refine HT.out.mono ?_);rintro e w1 ⟨rfl,k_⟩;have K1:=ah k_;clear k_)
 go_ret2
 exact ⟨by rw [fin.out];rfl,ov,by rw [fin.out];exact (bI.refl H.out).quiet K1.out⟩
include hsx in
theorem abq (hx:aW w Sx b o (.mk 3 t n nm kids)):Calls Tryz.prog 67 #[.pointer (some ⟨F.R,0,none⟩),.pointer (some ⟨b,o,none⟩)] w (EvQ F ov w (jy (.mk 3 t n nm kids) S)):=by
 have fin:Hid (jy (.mk 3 t n nm kids) S=okO (jH S nm)):=by unfold Hid;rw [jy,if_neg (by decide),if_neg (by decide),if_pos rfl]
 have hsf:Safe Sx aB w.heap.size:=fun b hb=>⟨Nat.lt_of_lt_of_le (hsx b hb) h.ql.low,fun h=>h⟩
 have HP:=ah (Gx F ov S Sx (.mk 3 t n nm kids) b o w h hx hsf rfl)
 have hpf:nT (.mk 3 t n nm kids) S=(some ⟨nm,⟨#[]⟩,false⟩,S):=if_pos rfl
 have QW:=ah hpf
 unfold aW at hx
 obtain ⟨_,hz,q0,_⟩:=hx
 have hn:nm.size≤1000000000:=by omega
 have H:=ah h
 clear h hsf hpf hz
 go_enter Tryz.func67, Tryz.ntmps67
 go_upto_region 10 with (go_at_call 69;(with_reducible refine HP.out.mono ?_);rintro e w1 ⟨⟨p_,rfl,Ns⟩,fE,r_⟩;rw [QW.out] at r_ Ns;obtain rfl:=Ns _ rfl;rw [QW.out];dsimp only [Option.isSome];have R1:=ah r_;clear r_ Ns)
 obtain ⟨w2,hw2⟩:∃w2,w2=w1.alloc (.cells #[.string nm,.string ⟨#[]⟩,.bool false] 137):=⟨_,rfl⟩
 obtain ⟨B,hB⟩:∃B,B=w1.heap.size:=⟨_,rfl⟩
 have hb:yT B nm ⟨#[]⟩ false w2:=by rw [hw2,hB];exact dO.new _ _ _
 have k2:Kept aB w1 w2:=by rw [hw2];exact (Kept.refl aB w1).alloc _
 rw [←hw2,←hB]
 have R2:=R1.out.quiet k2
 have HR:Hid (∀wx,Kept aB w2 wx→Calls Tryz.prog 70 #[.pointer (some ⟨F.O,0,none⟩),.agg #[.string nm,.string ⟨#[]⟩,.bool false]] wx (MS F ov w (jH S nm))):=fun wx k=>(Vu F fE S nm ⟨#[]⟩ wx (R2.at_.quiet k) hn).mono (fun e w' q=>MS.back R2 k q)
 obtain ⟨c0,c1,c2,_⟩:=hb.cells
 obtain ⟨r0,_⟩:=R2.at_.xZ
 obtain ⟨u0,_⟩:=R2.at_.qE
 clear hw2 hB hb k2 R2 R1 q0
 go_upto_region 12 with fail
 go_wp2_with (go_region_with (go_at_call 70;(with_reducible refine (HR.out _ (by repeat (first|exact Kept.refl aB _|refine Kept.drew ?_|refine Kept.drewN ?_ _))).mono ?_);rintro e w3 ⟨rfl,CU,r_⟩;have R3:=ah r_;clear r_))
 all_goals
  go_ret2
  exact ⟨by rw [fin.out,(QV S nm).1,(QV S nm).2];rfl,CU,by rw [fin.out];exact R3.out⟩
end
end Go.Proofs.YtgoijmpahffnhaaGreatDoor

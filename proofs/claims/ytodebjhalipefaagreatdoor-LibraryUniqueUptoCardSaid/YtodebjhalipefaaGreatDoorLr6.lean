/-  -/
import Derived.Test.YtodebjhalipefaaGreatDoorLq6
import Derived.Deep.RegionWith
namespace Go.Proofs.YtodebjhalipefaaGreatDoor
set_option linter.all false
open Go.RowKit
set_option maxRecDepth 100000
set_option maxHeartbeats 2000000
def EvQ (F:dG) (ov:Value) (w:World) (r:Option aj×aW) (e:Ending) (w':World):Prop:=e=.returned (.tuple #[.string (r.1.getD ⟨#[]⟩),.bool r.1.isSome])∧∃qC,bf F ov w qC r.2 w'
def wX (o:Option aj) (w:World) (e:Ending) (w':World):Prop:=e=.returned (.tuple #[.string (o.getD ⟨#[]⟩),.bool o.isSome])∧Kept aA w w'
structure BR (F:dG) (nb:aj→Bool) (kb:Int→Bool):Prop where
 bu:∀nm,nb nm=true→∀(a:List aj) (al:Option Addr) (cl:Nat) (w:World),F.G w→aX w (· < w.heap.size) al a→aI nm=(a.length:Int)→(∀t∈a,t.size≤65536)→Calls Tryz.prog 116 #[.string nm,.slice al a.length cl] w (wX (gK nm a) w)
 bi:∀k,kb k=true→8≤k→∀(a b:aj) (w:World),F.G w→a.size≤65536→b.size≤65536→Calls Tryz.prog 115 #[.int .i64 k,.string a,.string b] w (wX (sD k a b) w)
 nu:kb 2=true→∀n,eH n→∀w,F.G w→Calls Tryz.prog 114 #[.int .i64 n,.int .i64 0] w (wX (some (bY n)) w)
theorem aY.g {F:dG} {ov:Value} {S:aW} {w:World} (h:aY F ov S w):F.G w:=h.oJ.g
theorem Rx (S:aW) (n:aj):(okO (jg S n)).1.getD ⟨#[]⟩=(jg S n).1.1∧(okO (jg S n)).1.isSome=(jg S n).1.2:=by
 unfold jg okO
 split
 ·exact ⟨rfl,rfl⟩
 split
 ·split<;>exact ⟨rfl,rfl⟩
 ·exact ⟨rfl,rfl⟩
section
variable (F:dG) (nb:aj→Bool) (kb:Int→Bool) (BH:BR F nb kb) (ov:Value) (S:aW) (Sx:Nat→Prop) (t:aj) (n:Int) (nm:aj) (kids:List aB) (b o:Nat) (w:World) (h:aY F ov S w) (hsx:∀b,Sx b→b<F.N)
include h
theorem ac1 (hx:aU w Sx b o (.mk 1 t n nm kids)):Calls Tryz.prog 82 #[.pointer (some ⟨F.R,0,none⟩),.pointer (some ⟨b,o,none⟩)] w (EvQ F ov w (iK (.mk 1 t n nm kids) S)):=by
 have fin:Hid (iK (.mk 1 t n nm kids) S=(some t,S)):=by unfold Hid;rw [iK,if_pos rfl]
 unfold aU at hx
 obtain ⟨_,_,q0,q1,_⟩:=hx
 have H:=ah h
 clear h
 go_enter Tryz.func82, Tryz.ntmps82
 go_wp2_with fail
 go_ret2
 exact ⟨by rw [fin.out];rfl,ov,by rw [fin.out];exact bf.refl H.out⟩
include BH in
theorem aeC (hx:aU w Sx b o (.mk 2 t n nm kids)) (h2:kb 2=true) (hz:eH n):Calls Tryz.prog 82 #[.pointer (some ⟨F.R,0,none⟩),.pointer (some ⟨b,o,none⟩)] w (EvQ F ov w (iK (.mk 2 t n nm kids) S)):=by
 have fin:Hid (iK (.mk 2 t n nm kids) S=(some (bY n),S)):=by unfold Hid;rw [iK,if_neg (by decide),if_pos rfl]
 unfold aU at hx
 obtain ⟨_,_,q0,_,q2,_⟩:=hx
 have HT:=ah (BH.nu h2 n hz w h.g)
 have H:=ah h
 clear h hz
 go_enter Tryz.func82, Tryz.ntmps82
 go_wp2_with (go_at_call 114;(with_reducible refine HT.out.mono ?_);rintro e w1 ⟨rfl,k_⟩;have K1:=ah k_;clear k_)
 go_ret2
 exact ⟨by rw [fin.out];rfl,ov,by rw [fin.out];exact (bf.refl H.out).quiet K1.out⟩
include hsx in
theorem ac2 (hx:aU w Sx b o (.mk 3 t n nm kids)):Calls Tryz.prog 82 #[.pointer (some ⟨F.R,0,none⟩),.pointer (some ⟨b,o,none⟩)] w (EvQ F ov w (iK (.mk 3 t n nm kids) S)):=by
 have fin:Hid (iK (.mk 3 t n nm kids) S=okO (jg S nm)):=by unfold Hid;rw [iK,if_neg (by decide),if_neg (by decide),if_pos rfl]
 have hsf:Safe Sx aA w.heap.size:=fun b hb=>⟨Nat.lt_of_lt_of_le (hsx b hb) h.oJ.low,fun h=>h⟩
 have HP:=ah (Gu F ov S Sx (.mk 3 t n nm kids) b o w h hx hsf rfl)
 have hpf:nT (.mk 3 t n nm kids) S=(some ⟨nm,⟨#[]⟩,false⟩,S):=if_pos rfl
 have Ry:=ah hpf
 unfold aU at hx
 obtain ⟨_,hz,q0,_⟩:=hx
 have hn:nm.size≤1000000000:=by omega
 have H:=ah h
 clear h hsf hpf hz
 go_enter Tryz.func82, Tryz.ntmps82
 go_upto_region 10 with (go_at_call 84;(with_reducible refine HP.out.mono ?_);rintro e w1 ⟨⟨p_,rfl,NG⟩,dU,r_⟩;rw [Ry.out] at r_ NG;obtain rfl:=NG _ rfl;rw [Ry.out];dsimp only [Option.isSome];have R1:=ah r_;clear r_ NG)
 obtain ⟨w2,hw2⟩:∃w2,w2=w1.alloc (.cells #[.string nm,.string ⟨#[]⟩,.bool false] 161):=⟨_,rfl⟩
 obtain ⟨B,hB⟩:∃B,B=w1.heap.size:=⟨_,rfl⟩
 have hb:yh B nm ⟨#[]⟩ false w2:=by rw [hw2,hB];exact dI.new _ _ _
 have k2:Kept aA w1 w2:=by rw [hw2];exact (Kept.refl aA w1).alloc _
 rw [←hw2,←hB]
 have R2:=R1.out.quiet k2
 have HR:Hid (∀wx,Kept aA w2 wx→Calls Tryz.prog 85 #[.pointer (some ⟨F.O,0,none⟩),.agg #[.string nm,.string ⟨#[]⟩,.bool false]] wx (Nj F ov w (jg S nm))):=fun wx k=>(WC F dU S nm ⟨#[]⟩ wx (R2.at_.quiet k) hn).mono (fun e w' q=>Nj.back R2 k q)
 obtain ⟨c0,c1,c2,_⟩:=hb.cells
 obtain ⟨r0,_⟩:=R2.at_.wW
 obtain ⟨u0,_⟩:=R2.at_.oW
 clear hw2 hB hb k2 R2 R1 q0
 go_upto_region 12 with fail
 go_wp2_with (go_region_with (go_at_call 85;(with_reducible refine (HR.out _ (by repeat (first|exact Kept.refl aA _|refine Kept.drew ?_|refine Kept.drewN ?_ _))).mono ?_);rintro e w3 ⟨rfl,BX,r_⟩;have R3:=ah r_;clear r_))
 all_goals
  go_ret2
  exact ⟨by rw [fin.out,(Rx S nm).1,(Rx S nm).2];rfl,BX,by rw [fin.out];exact R3.out⟩
end
end Go.Proofs.YtodebjhalipefaaGreatDoor

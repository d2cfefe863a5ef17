/-  -/
import Derived.Test.YtgoijmpahffnhaaGreatDoorMapS
import Derived.Test.YtgoijmpahffnhaaGreatDoorWin
import Derived.Shelf.SlIter.Nil
import Derived.Shelf.SortM.Plain
import Derived.Shelf.SortM.SortNone
import Derived.Ground.GgzProg
import Derived.Ground.SlgmProg
import Derived.Shelf.SlGeneric
namespace Go.Proofs.YtgoijmpahffnhaaGreatDoor
set_option linter.all false
open Go.RowKit Go.Maps Go.Sort Go.Shelf
set_option maxHeartbeats 1000000
def Fj:Go.Shelf.Ren:=⟨fun|7=>74|10=>115|n=>n,fun|23=>94|26=>9|3=>9|28=>145|0=>0|27=>144|33=>112|4=>4|n=>n,fun|n=>n⟩
theorem Ui:Go.Proofs.SlLaysZ.n7 Tryz.prog Fj:={
 mixed:=by kernel_rfl
 f7:=⟨Tryz.f74.name,by decide,Tryz.func74.trans (congrArg some (by kernel_rfl))⟩
 f10:=⟨Tryz.f115.name,by decide,Tryz.func115.trans (congrArg some (by kernel_rfl))⟩
 t0:=Tryz.underlying0
 a0:=Tryz.isAgg0
 z0:=Tryz.sizeOf0
 v0:=Tryz.zeroValue0
 t4:=Tryz.underlying4
 a4:=Tryz.isAgg4
 z4:=Tryz.sizeOf4
 v4:=Tryz.zeroValue4
 t23:=Tryz.underlying94
 a23:=Tryz.isAgg94
 z23:=Tryz.sizeOf94
 v23:=Tryz.zeroValue94
 t26:=Tryz.underlying9
 a26:=Tryz.isAgg9
 z26:=Tryz.sizeOf9
 v26:=Tryz.zeroValue9
 t27:=Tryz.underlying144
 a27:=Tryz.isAgg144
 z27:=Tryz.sizeOf144
 v27:=Tryz.zeroValue144
 t28:=Tryz.underlying145
 a28:=Tryz.isAgg145
 z28:=Tryz.sizeOf145
 v28:=Tryz.zeroValue145
 t33:=Tryz.underlying112
 a33:=Tryz.isAgg112
 z33:=Tryz.sizeOf112
 v33:=Tryz.zeroValue112}
def CY:Go.Shelf.Ren:=⟨fun|6=>73|8=>113|9=>114|11=>173|13=>117|12=>174|23=>183|24=>184|14=>217|15=>218|16=>219|17=>220|18=>221|19=>222|20=>223|21=>224|22=>225|25=>258|26=>227|27=>228|28=>259|29=>260|30=>118|31=>281|n=>n,fun|26=>9|28=>145|24=>22|0=>0|3=>3|37=>188|48=>260|50=>262|4=>4|40=>254|39=>253|45=>120|5=>5|9=>9|51=>308|55=>312|57=>338|58=>339|33=>112|n=>n,fun|n=>n⟩
theorem YB:Go.Proofs.SlLaysZ.n6 Tryz.prog CY:={
 mixed:=by kernel_rfl
 f6:=⟨Tryz.f73.name,by decide,Tryz.func73.trans (congrArg some (by kernel_rfl))⟩
 f8:=⟨Tryz.f113.name,by decide,Tryz.func113.trans (congrArg some (by kernel_rfl))⟩
 f11:=⟨Tryz.f173.name,by decide,Tryz.func173.trans (congrArg some (by kernel_rfl))⟩
 t0:=Tryz.underlying0
 a0:=Tryz.isAgg0
 z0:=Tryz.sizeOf0
 v0:=Tryz.zeroValue0
 t24:=Tryz.underlying22
 a24:=Tryz.isAgg22
 z24:=Tryz.sizeOf22
 v24:=Tryz.zeroValue22
 t26:=Tryz.underlying9
 a26:=Tryz.isAgg9
 z26:=Tryz.sizeOf9
 v26:=Tryz.zeroValue9
 t28:=Tryz.underlying145
 a28:=Tryz.isAgg145
 z28:=Tryz.sizeOf145
 v28:=Tryz.zeroValue145
 i26:=by kernel_rfl}
def QY:Go.Shelf.Ren:=⟨fun|6=>114|8=>117|9=>174|19=>183|20=>184|21=>217|22=>218|23=>219|24=>220|25=>221|26=>222|27=>223|28=>224|29=>225|36=>258|31=>227|32=>228|37=>259|38=>260|39=>118|41=>281|n=>n,fun|27=>22|29=>9|3=>3|32=>188|26=>22|0=>0|44=>260|46=>262|4=>4|36=>254|35=>253|41=>120|5=>5|9=>9|53=>308|57=>312|63=>338|64=>339|n=>n,fun|n=>n⟩
theorem Uj:Go.Proofs.SlLaysM.n6 Tryz.prog QY:={
 mixed:=by kernel_rfl
 f6:=⟨Tryz.f114.name,by decide,Tryz.func114.trans (congrArg some (by kernel_rfl))⟩
 f8:=Tryz.func117.trans (congrArg some (by kernel_rfl))
 f9:=⟨Tryz.f174.name,by decide,Tryz.func174.trans (congrArg some (by kernel_rfl))⟩
 f19:=Tryz.func183.trans (congrArg some (by kernel_rfl))
 f20:=Tryz.func184.trans (congrArg some (by kernel_rfl))
 f21:=⟨Tryz.f217.name,by decide,Tryz.func217.trans (congrArg some (by kernel_rfl))⟩
 f22:=⟨Tryz.f218.name,by decide,Tryz.func218.trans (congrArg some (by kernel_rfl))⟩
 f23:=⟨Tryz.f219.name,by decide,Tryz.func219.trans (congrArg some (by kernel_rfl))⟩
 f24:=⟨Tryz.f220.name,by decide,Tryz.func220.trans (congrArg some (by kernel_rfl))⟩
 f25:=⟨Tryz.f221.name,by decide,Tryz.func221.trans (congrArg some (by kernel_rfl))⟩
 f26:=⟨Tryz.f222.name,by decide,Tryz.func222.trans (congrArg some (by kernel_rfl))⟩
 f27:=⟨Tryz.f223.name,by decide,Tryz.func223.trans (congrArg some (by kernel_rfl))⟩
 f28:=⟨Tryz.f224.name,by decide,Tryz.func224.trans (congrArg some (by kernel_rfl))⟩
 f29:=⟨Tryz.f225.name,by decide,Tryz.func225.trans (congrArg some (by kernel_rfl))⟩
 f31:=Tryz.func227.trans (congrArg some (by kernel_rfl))
 f32:=Tryz.func228.trans (congrArg some (by kernel_rfl))
 f36:=⟨Tryz.f258.name,by decide,Tryz.func258.trans (congrArg some (by kernel_rfl))⟩
 f37:=⟨Tryz.f259.name,by decide,Tryz.func259.trans (congrArg some (by kernel_rfl))⟩
 f38:=⟨Tryz.f260.name,by decide,Tryz.func260.trans (congrArg some (by kernel_rfl))⟩
 f39:=⟨Tryz.f118.name,by decide,Tryz.func118.trans (congrArg some (by kernel_rfl))⟩
 f41:=⟨Tryz.f281.name,by decide,Tryz.func281.trans (congrArg some (by kernel_rfl))⟩
 t0:=Tryz.underlying0
 a0:=Tryz.isAgg0
 z0:=Tryz.sizeOf0
 v0:=Tryz.zeroValue0
 t3:=Tryz.underlying3
 a3:=Tryz.isAgg3
 z3:=Tryz.sizeOf3
 v3:=Tryz.zeroValue3
 t4:=Tryz.underlying4
 a4:=Tryz.isAgg4
 z4:=Tryz.sizeOf4
 v4:=Tryz.zeroValue4
 t5:=Tryz.underlying5
 a5:=Tryz.isAgg5
 z5:=Tryz.sizeOf5
 v5:=Tryz.zeroValue5
 t9:=Tryz.underlying9
 a9:=Tryz.isAgg9
 z9:=Tryz.sizeOf9
 v9:=Tryz.zeroValue9
 t26:=Tryz.underlying22
 a26:=Tryz.isAgg22
 z26:=Tryz.sizeOf22
 v26:=Tryz.zeroValue22
 t27:=Tryz.underlying22
 a27:=Tryz.isAgg22
 z27:=Tryz.sizeOf22
 v27:=Tryz.zeroValue22
 t29:=Tryz.underlying9
 a29:=Tryz.isAgg9
 z29:=Tryz.sizeOf9
 v29:=Tryz.zeroValue9
 t32:=Tryz.underlying188
 a32:=Tryz.isAgg188
 z32:=Tryz.sizeOf188
 v32:=Tryz.zeroValue188
 t35:=Tryz.underlying253
 a35:=Tryz.isAgg253
 z35:=Tryz.sizeOf253
 v35:=Tryz.zeroValue253
 t36:=Tryz.underlying254
 a36:=Tryz.isAgg254
 z36:=Tryz.sizeOf254
 v36:=Tryz.zeroValue254
 t41:=Tryz.underlying120
 a41:=Tryz.isAgg120
 z41:=Tryz.sizeOf120
 v41:=Tryz.zeroValue120
 t44:=Tryz.underlying260
 a44:=Tryz.isAgg260
 z44:=Tryz.sizeOf260
 v44:=Tryz.zeroValue260
 t46:=Tryz.underlying262
 a46:=Tryz.isAgg262
 z46:=Tryz.sizeOf262
 v46:=Tryz.zeroValue262
 t53:=Tryz.underlying308
 a53:=Tryz.isAgg308
 z53:=Tryz.sizeOf308
 v53:=Tryz.zeroValue308
 t57:=Tryz.underlying312
 a57:=Tryz.isAgg312
 z57:=Tryz.sizeOf312
 v57:=Tryz.zeroValue312
 t63:=Tryz.underlying338
 a63:=Tryz.isAgg338
 z63:=Tryz.sizeOf338
 v63:=Tryz.zeroValue338
 t64:=Tryz.underlying339
 a64:=Tryz.isAgg339
 z64:=Tryz.sizeOf339
 v64:=Tryz.zeroValue339}
theorem abU (m:Nat):AnyZ.SortsIn Tryz.prog CY Fence.wide m :=
 ⟨fun blk off cap ss W hH hblk hsz=>callsIn_wide.2 (AnyM.slices_Sort_string Uj blk off cap ss W hH hblk hsz),fun p cap W=>callsIn_wide.2 (AnyM.slices_Sort_string_none Uj p cap W)⟩
theorem abp (mb:Option Nat) (W:World):Calls Tryz.prog 74 #[.map mb] W fun e w'=>e=.returned (.func (.func 115) #[] #[.pointer (some ⟨W.heap.size,0,none⟩)])∧w'=W.alloc (.cells #[.map mb] 94) :=
 callsIn_wide.1 (AnyZ.keys_in Ui Fence.wide 5 trivial rfl mb W)
theorem VI (ss:List (List UInt8)):ss.map encStr=(ss.map fun l=>(⟨l.toArray⟩:aj)).map Value.string:=by
 rw [List.map_map];rfl
theorem JB (w:World) (B:Nat) (l:List (aj×aj)) (h:ji w B l none) (hl:l.length≤1048576) :
  Calls Tryz.prog 73 #[.func (.func 115) #[] #[.pointer (some ⟨w.heap.size,0,none⟩)]] (w.alloc (.cells #[.map (some B)] 94)) fun e w'=>∃(v:Value) (ks:List aj),e=.returned v∧
   aO w' w.heap.size 9 1 v ks.length (ks.map Value.string)∧(∀k∈ks,k.size≤maxLen)∧ks.length≤l.length∧Kept aA (w.alloc (.cells #[.map (some B)] 94)) w':=by
 obtain ⟨D0,hown,hmap,hD⟩:=h
 have hbl:=hown.lt
 have hsz:Maps.size D0≤l.length:=hown.size_le
 have hseq:SeqGives Fence.wide 2 Tryz.prog 115 #[.pointer (some ⟨w.heap.size,0,none⟩)] encStr (fun ss=>ss.Perm (strKeys D0)) (Maps.size D0) (w.alloc (.cells #[.map (some B)] 94)) :=
  AnyZ.keys_gives (ρ:=Fj) {Ui with} Fence.wide _ trivial rfl (by omega) w.heap.size B l.length D0 _ (by simp) (by simp) (by
   obtain ⟨es,clock,hb,Ft,hs,hD⟩:=hown
   exact ⟨es,clock,(Below.heap_alloc _ _ B hbl).trans hb,Ft,hs,hD⟩)
 have hc:=callsIn_wide.1 (AnyZ.sorted_in YB Fence.wide 5 trivial trivial trivial trivial rfl (by omega) (abU _) (enters_of Tryz.func114 (by kernel_rfl) rfl) 115 #[.pointer (some ⟨w.heap.size,0,none⟩)] trivial (enters_of Tryz.func115 (by kernel_rfl) rfl) _ _ (show Maps.size D0≤maxLen by unfold maxLen;omega) (show Maps.size D0*16≤_ by omega) _ hseq)
 refine hc.mono ?_
 rintro e w' ⟨v,ss,rfl,hp,hrow,_,hb⟩
 refine ⟨v,(ss.mergeSort (fun x y=>decide (x≤y))).map fun l=>(⟨l.toArray⟩:aj),rfl,?_,fun k hk=>?_,?_,⟨hb.os,hb.tape,hb.output,hb.size,fun k hk _=>hb.block k hk⟩⟩
 ·rw [VI] at hrow
  have h1:aO w' w.heap.size 9 1 v ss.length (((ss.mergeSort (fun x y=>decide (x≤y))).map fun l=>(⟨l.toArray⟩:aj)).map Value.string):=(aO.agm hrow).mono (B':=w.heap.size) (by simp)
  have e:((ss.mergeSort (fun x y=>decide (x≤y))).map fun l=>(⟨l.toArray⟩:aj)).length=ss.length:=by simp
  rw [e];exact h1
 ·obtain ⟨x,hx,rfl⟩:=List.mem_map.1 hk
  have hx:x∈ss:=(List.mergeSort_perm _ _).mem_iff.1 hx
  have:=strKeys_le hown Tryz.underlying9 x (hp.mem_iff.1 hx)
  show (⟨x.toArray⟩:aj).size≤maxLen
  have e:(⟨x.toArray⟩:aj).size=x.length:=by show x.toArray.size=_;simp
  omega
 ·have h1:ss.length=Maps.size D0:=by
   rw [hp.length_eq]
   obtain ⟨es,rfl⟩:=hmap
   simp [strKeys,Maps.size]
  simp;omega
end Go.Proofs.YtgoijmpahffnhaaGreatDoor

/-  -/
import Derived.Test.YtodebjhalipefaaGreatDoorLq2
namespace Go.Proofs.YtodebjhalipefaaGreatDoor
set_option linter.all false
open Go.RowKit
set_option maxRecDepth 100000
set_option maxHeartbeats 4000000
def IQ (l:List UInt8):aj:=⟨l.toArray⟩
theorem VX (l:List UInt8):(IQ l).toList=l:=by rw [ByteArray.toList_eq];unfold IQ;simp
theorem EZ {s:aj} {l:List UInt8}:s=IQ l↔s.toList=l:=by
 constructor
 ·rintro rfl;exact VX l
 ·intro h
  obtain ⟨d⟩:=s
  rw [ByteArray.toList_eq] at h
  unfold IQ
  rw [←h]
def MJ:List (List UInt8):=[[83,73,90,69],[84,82,73,77],[82,69,86,69,82,83,69],[82,79,79,84],[73,78,84,69,71,69,82]]
def MK:List (List UInt8):=[[68,85,80,76],[82,79,84,65,84,69],[67,79,85,78,84],[69,81],[78,69],[76,84],[76,69],[71,84],[71,69],[73,68,69,78,84],[68,73,70,70,69,82],[76,71,84],[82,69,77,68,82],[80,79,87,69,82],[71,67,68],[66,65,83,69],[85,78,66,65,83,69]]
def ML:List (List UInt8):=[[82,69,80,76,65,67,69],[83,85,66,83,84,82],[76,80,65,68],[82,80,65,68]]
def aI (s:aj):Int:=if s.toList∈MJ then 1 else if s.toList∈MK then 2 else if s.toList∈ML then 3 else -1
def qN (s:aj):Bool:=(s.toList==[69,78,68])||(s.toList==[82,69,84,85,82,78])||(s.toList==[70,82,69,84,85,82,78])
theorem lF (s:aj) (w:World):Calls Tryz.prog 77 #[.string s] w fun e w'=>e=.returned (.int .i64 (aI s))∧w'=w:=by
 by_cases hs:s.toList=[83,73,90,69]
 ·have fin:Hid (aI s=1):=by unfold Hid aI;rw [hs];decide
  have e0:(s.toList==[83,73,90,69])=true:=by rw [hs];rfl
  clear hs
  go_enter Tryz.func77, Tryz.ntmps77
  go_wp2_with fail
  go_ret
  exact ⟨by rw [fin.out];try rfl,rfl⟩
 have n0:=hs;clear hs
 by_cases hs:s.toList=[84,82,73,77]
 ·have fin:Hid (aI s=1):=by unfold Hid aI;rw [hs];decide
  have e0:(s.toList==[83,73,90,69])=false:=by rw [hs];rfl
  have e1:(s.toList==[84,82,73,77])=true:=by rw [hs];rfl
  clear hs
  go_enter Tryz.func77, Tryz.ntmps77
  go_wp2_with fail
  go_ret
  exact ⟨by rw [fin.out];try rfl,rfl⟩
 have n1:=hs;clear hs
 by_cases hs:s.toList=[82,69,86,69,82,83,69]
 ·have fin:Hid (aI s=1):=by unfold Hid aI;rw [hs];decide
  have e0:(s.toList==[83,73,90,69])=false:=by rw [hs];rfl
  have e1:(s.toList==[84,82,73,77])=false:=by rw [hs];rfl
  have e2:(s.toList==[82,69,86,69,82,83,69])=true:=by rw [hs];rfl
  clear hs
  go_enter Tryz.func77, Tryz.ntmps77
  go_wp2_with fail
  go_ret
  exact ⟨by rw [fin.out];try rfl,rfl⟩
 have n2:=hs;clear hs
 by_cases hs:s.toList=[82,79,79,84]
 ·have fin:Hid (aI s=1):=by unfold Hid aI;rw [hs];decide
  have e0:(s.toList==[83,73,90,69])=false:=by rw [hs];rfl
  have e1:(s.toList==[84,82,73,77])=false:=by rw [hs];rfl
  have e2:(s.toList==[82,69,86,69,82,83,69])=false:=by rw [hs];rfl
  have e3:(s.toList==[82,79,79,84])=true:=by rw [hs];rfl
  clear hs
  go_enter Tryz.func77, Tryz.ntmps77
  go_wp2_with fail
  go_ret
  exact ⟨by rw [fin.out];try rfl,rfl⟩
 have n3:=hs;clear hs
 by_cases hs:s.toList=[73,78,84,69,71,69,82]
 ·have fin:Hid (aI s=1):=by unfold Hid aI;rw [hs];decide
  have e0:(s.toList==[83,73,90,69])=false:=by rw [hs];rfl
  have e1:(s.toList==[84,82,73,77])=false:=by rw [hs];rfl
  have e2:(s.toList==[82,69,86,69,82,83,69])=false:=by rw [hs];rfl
  have e3:(s.toList==[82,79,79,84])=false:=by rw [hs];rfl
  have e4:(s.toList==[73,78,84,69,71,69,82])=true:=by rw [hs];rfl
  clear hs
  go_enter Tryz.func77, Tryz.ntmps77
  go_wp2_with fail
  go_ret
  exact ⟨by rw [fin.out];try rfl,rfl⟩
 have n4:=hs;clear hs
 by_cases hs:s.toList=[68,85,80,76]
 ·have fin:Hid (aI s=2):=by unfold Hid aI;rw [hs];decide
  have e0:(s.toList==[83,73,90,69])=false:=by rw [hs];rfl
  have e1:(s.toList==[84,82,73,77])=false:=by rw [hs];rfl
  have e2:(s.toList==[82,69,86,69,82,83,69])=false:=by rw [hs];rfl
  have e3:(s.toList==[82,79,79,84])=false:=by rw [hs];rfl
  have e4:(s.toList==[73,78,84,69,71,69,82])=false:=by rw [hs];rfl
  have e5:(s.toList==[68,85,80,76])=true:=by rw [hs];rfl
  clear hs
  go_enter Tryz.func77, Tryz.ntmps77
  go_wp2_with fail
  go_ret
  exact ⟨by rw [fin.out];try rfl,rfl⟩
 have n5:=hs;clear hs
 by_cases hs:s.toList=[82,79,84,65,84,69]
 ·have fin:Hid (aI s=2):=by unfold Hid aI;rw [hs];decide
  have e0:(s.toList==[83,73,90,69])=false:=by rw [hs];rfl
  have e1:(s.toList==[84,82,73,77])=false:=by rw [hs];rfl
  have e2:(s.toList==[82,69,86,69,82,83,69])=false:=by rw [hs];rfl
  have e3:(s.toList==[82,79,79,84])=false:=by rw [hs];rfl
  have e4:(s.toList==[73,78,84,69,71,69,82])=false:=by rw [hs];rfl
  have e5:(s.toList==[68,85,80,76])=false:=by rw [hs];rfl
  have e6:(s.toList==[82,79,84,65,84,69])=true:=by rw [hs];rfl
  clear hs
  go_enter Tryz.func77, Tryz.ntmps77
  go_wp2_with fail
  go_ret
  exact ⟨by rw [fin.out];try rfl,rfl⟩
 have n6:=hs;clear hs
 by_cases hs:s.toList=[67,79,85,78,84]
 ·have fin:Hid (aI s=2):=by unfold Hid aI;rw [hs];decide
  have e0:(s.toList==[83,73,90,69])=false:=by rw [hs];rfl
  have e1:(s.toList==[84,82,73,77])=false:=by rw [hs];rfl
  have e2:(s.toList==[82,69,86,69,82,83,69])=false:=by rw [hs];rfl
  have e3:(s.toList==[82,79,79,84])=false:=by rw [hs];rfl
  have e4:(s.toList==[73,78,84,69,71,69,82])=false:=by rw [hs];rfl
  have e5:(s.toList==[68,85,80,76])=false:=by rw [hs];rfl
  have e6:(s.toList==[82,79,84,65,84,69])=false:=by rw [hs];rfl
  have e7:(s.toList==[67,79,85,78,84])=true:=by rw [hs];rfl
  clear hs
  go_enter Tryz.func77, Tryz.ntmps77
  go_wp2_with fail
  go_ret
  exact ⟨by rw [fin.out];try rfl,rfl⟩
 have n7:=hs;clear hs
 by_cases hs:s.toList=[69,81]
 ·have fin:Hid (aI s=2):=by unfold Hid aI;rw [hs];decide
  have e0:(s.toList==[83,73,90,69])=false:=by rw [hs];rfl
  have e1:(s.toList==[84,82,73,77])=false:=by rw [hs];rfl
  have e2:(s.toList==[82,69,86,69,82,83,69])=false:=by rw [hs];rfl
  have e3:(s.toList==[82,79,79,84])=false:=by rw [hs];rfl
  have e4:(s.toList==[73,78,84,69,71,69,82])=false:=by rw [hs];rfl
  have e5:(s.toList==[68,85,80,76])=false:=by rw [hs];rfl
  have e6:(s.toList==[82,79,84,65,84,69])=false:=by rw [hs];rfl
  have e7:(s.toList==[67,79,85,78,84])=false:=by rw [hs];rfl
  have e8:(s.toList==[69,81])=true:=by rw [hs];rfl
  clear hs
  go_enter Tryz.func77, Tryz.ntmps77
  go_wp2_with fail
  go_ret
  exact ⟨by rw [fin.out];try rfl,rfl⟩
 have n8:=hs;clear hs
 by_cases hs:s.toList=[78,69]
 ·have fin:Hid (aI s=2):=by unfold Hid aI;rw [hs];decide
  have e0:(s.toList==[83,73,90,69])=false:=by rw [hs];rfl
  have e1:(s.toList==[84,82,73,77])=false:=by rw [hs];rfl
  have e2:(s.toList==[82,69,86,69,82,83,69])=false:=by rw [hs];rfl
  have e3:(s.toList==[82,79,79,84])=false:=by rw [hs];rfl
  have e4:(s.toList==[73,78,84,69,71,69,82])=false:=by rw [hs];rfl
  have e5:(s.toList==[68,85,80,76])=false:=by rw [hs];rfl
  have e6:(s.toList==[82,79,84,65,84,69])=false:=by rw [hs];rfl
  have e7:(s.toList==[67,79,85,78,84])=false:=by rw [hs];rfl
  have e8:(s.toList==[69,81])=false:=by rw [hs];rfl
  have e9:(s.toList==[78,69])=true:=by rw [hs];rfl
  clear hs
  go_enter Tryz.func77, Tryz.ntmps77
  go_wp2_with fail
  go_ret
  exact ⟨by rw [fin.out];try rfl,rfl⟩
 have n9:=hs;clear hs
 by_cases hs:s.toList=[76,84]
 ·have fin:Hid (aI s=2):=by unfold Hid aI;rw [hs];decide
  have e0:(s.toList==[83,73,90,69])=false:=by rw [hs];rfl
  have e1:(s.toList==[84,82,73,77])=false:=by rw [hs];rfl
  have e2:(s.toList==[82,69,86,69,82,83,69])=false:=by rw [hs];rfl
  have e3:(s.toList==[82,79,79,84])=false:=by rw [hs];rfl
  have e4:(s.toList==[73,78,84,69,71,69,82])=false:=by rw [hs];rfl
  have e5:(s.toList==[68,85,80,76])=false:=by rw [hs];rfl
  have e6:(s.toList==[82,79,84,65,84,69])=false:=by rw [hs];rfl
  have e7:(s.toList==[67,79,85,78,84])=false:=by rw [hs];rfl
  have e8:(s.toList==[69,81])=false:=by rw [hs];rfl
  have e9:(s.toList==[78,69])=false:=by rw [hs];rfl
  have e10:(s.toList==[76,84])=true:=by rw [hs];rfl
  clear hs
  go_enter Tryz.func77, Tryz.ntmps77
  go_wp2_with fail
  go_ret
  exact ⟨by rw [fin.out];try rfl,rfl⟩
 have n10:=hs;clear hs
 by_cases hs:s.toList=[76,69]
 ·have fin:Hid (aI s=2):=by unfold Hid aI;rw [hs];decide
  have e0:(s.toList==[83,73,90,69])=false:=by rw [hs];rfl
  have e1:(s.toList==[84,82,73,77])=false:=by rw [hs];rfl
  have e2:(s.toList==[82,69,86,69,82,83,69])=false:=by rw [hs];rfl
  have e3:(s.toList==[82,79,79,84])=false:=by rw [hs];rfl
  have e4:(s.toList==[73,78,84,69,71,69,82])=false:=by rw [hs];rfl
  have e5:(s.toList==[68,85,80,76])=false:=by rw [hs];rfl
  have e6:(s.toList==[82,79,84,65,84,69])=false:=by rw [hs];rfl
  have e7:(s.toList==[67,79,85,78,84])=false:=by rw [hs];rfl
  have e8:(s.toList==[69,81])=false:=by rw [hs];rfl
  have e9:(s.toList==[78,69])=false:=by rw [hs];rfl
  have e10:(s.toList==[76,84])=false:=by rw [hs];rfl
  have e11:(s.toList==[76,69])=true:=by rw [hs];rfl
  clear hs
  go_enter Tryz.func77, Tryz.ntmps77
  go_wp2_with fail
  go_ret
  exact ⟨by rw [fin.out];try rfl,rfl⟩
 have n11:=hs;clear hs
 by_cases hs:s.toList=[71,84]
 ·have fin:Hid (aI s=2):=by unfold Hid aI;rw [hs];decide
  have e0:(s.toList==[83,73,90,69])=false:=by rw [hs];rfl
  have e1:(s.toList==[84,82,73,77])=false:=by rw [hs];rfl
  have e2:(s.toList==[82,69,86,69,82,83,69])=false:=by rw [hs];rfl
  have e3:(s.toList==[82,79,79,84])=false:=by rw [hs];rfl
  have e4:(s.toList==[73,78,84,69,71,69,82])=false:=by rw [hs];rfl
  have e5:(s.toList==[68,85,80,76])=false:=by rw [hs];rfl
  have e6:(s.toList==[82,79,84,65,84,69])=false:=by rw [hs];rfl
  have e7:(s.toList==[67,79,85,78,84])=false:=by rw [hs];rfl
  have e8:(s.toList==[69,81])=false:=by rw [hs];rfl
  have e9:(s.toList==[78,69])=false:=by rw [hs];rfl
  have e10:(s.toList==[76,84])=false:=by rw [hs];rfl
  have e11:(s.toList==[76,69])=false:=by rw [hs];rfl
  have e12:(s.toList==[71,84])=true:=by rw [hs];rfl
  clear hs
  go_enter Tryz.func77, Tryz.ntmps77
  go_wp2_with fail
  go_ret
  exact ⟨by rw [fin.out];try rfl,rfl⟩
 have n12:=hs;clear hs
 by_cases hs:s.toList=[71,69]
 ·have fin:Hid (aI s=2):=by unfold Hid aI;rw [hs];decide
  have e0:(s.toList==[83,73,90,69])=false:=by rw [hs];rfl
  have e1:(s.toList==[84,82,73,77])=false:=by rw [hs];rfl
  have e2:(s.toList==[82,69,86,69,82,83,69])=false:=by rw [hs];rfl
  have e3:(s.toList==[82,79,79,84])=false:=by rw [hs];rfl
  have e4:(s.toList==[73,78,84,69,71,69,82])=false:=by rw [hs];rfl
  have e5:(s.toList==[68,85,80,76])=false:=by rw [hs];rfl
  have e6:(s.toList==[82,79,84,65,84,69])=false:=by rw [hs];rfl
  have e7:(s.toList==[67,79,85,78,84])=false:=by rw [hs];rfl
  have e8:(s.toList==[69,81])=false:=by rw [hs];rfl
  have e9:(s.toList==[78,69])=false:=by rw [hs];rfl
  have e10:(s.toList==[76,84])=false:=by rw [hs];rfl
  have e11:(s.toList==[76,69])=false:=by rw [hs];rfl
  have e12:(s.toList==[71,84])=false:=by rw [hs];rfl
  have e13:(s.toList==[71,69])=true:=by rw [hs];rfl
  clear hs
  go_enter Tryz.func77, Tryz.ntmps77
  go_wp2_with fail
  go_ret
  exact ⟨by rw [fin.out];try rfl,rfl⟩
 have n13:=hs;clear hs
 by_cases hs:s.toList=[73,68,69,78,84]
 ·have fin:Hid (aI s=2):=by unfold Hid aI;rw [hs];decide
  have e0:(s.toList==[83,73,90,69])=false:=by rw [hs];rfl
  have e1:(s.toList==[84,82,73,77])=false:=by rw [hs];rfl
  have e2:(s.toList==[82,69,86,69,82,83,69])=false:=by rw [hs];rfl
  have e3:(s.toList==[82,79,79,84])=false:=by rw [hs];rfl
  have e4:(s.toList==[73,78,84,69,71,69,82])=false:=by rw [hs];rfl
  have e5:(s.toList==[68,85,80,76])=false:=by rw [hs];rfl
  have e6:(s.toList==[82,79,84,65,84,69])=false:=by rw [hs];rfl
  have e7:(s.toList==[67,79,85,78,84])=false:=by rw [hs];rfl
  have e8:(s.toList==[69,81])=false:=by rw [hs];rfl
  have e9:(s.toList==[78,69])=false:=by rw [hs];rfl
  have e10:(s.toList==[76,84])=false:=by rw [hs];rfl
  have e11:(s.toList==[76,69])=false:=by rw [hs];rfl
  have e12:(s.toList==[71,84])=false:=by rw [hs];rfl
  have e13:(s.toList==[71,69])=false:=by rw [hs];rfl
  have e14:(s.toList==[73,68,69,78,84])=true:=by rw [hs];rfl
  clear hs
  go_enter Tryz.func77, Tryz.ntmps77
  go_wp2_with fail
  go_ret
  exact ⟨by rw [fin.out];try rfl,rfl⟩
 have n14:=hs;clear hs
 by_cases hs:s.toList=[68,73,70,70,69,82]
 ·have fin:Hid (aI s=2):=by unfold Hid aI;rw [hs];decide
  have e0:(s.toList==[83,73,90,69])=false:=by rw [hs];rfl
  have e1:(s.toList==[84,82,73,77])=false:=by rw [hs];rfl
  have e2:(s.toList==[82,69,86,69,82,83,69])=false:=by rw [hs];rfl
  have e3:(s.toList==[82,79,79,84])=false:=by rw [hs];rfl
  have e4:(s.toList==[73,78,84,69,71,69,82])=false:=by rw [hs];rfl
  have e5:(s.toList==[68,85,80,76])=false:=by rw [hs];rfl
  have e6:(s.toList==[82,79,84,65,84,69])=false:=by rw [hs];rfl
  have e7:(s.toList==[67,79,85,78,84])=false:=by rw [hs];rfl
  have e8:(s.toList==[69,81])=false:=by rw [hs];rfl
  have e9:(s.toList==[78,69])=false:=by rw [hs];rfl
  have e10:(s.toList==[76,84])=false:=by rw [hs];rfl
  have e11:(s.toList==[76,69])=false:=by rw [hs];rfl
  have e12:(s.toList==[71,84])=false:=by rw [hs];rfl
  have e13:(s.toList==[71,69])=false:=by rw [hs];rfl
  have e14:(s.toList==[73,68,69,78,84])=false:=by rw [hs];rfl
  have e15:(s.toList==[68,73,70,70,69,82])=true:=by rw [hs];rfl
  clear hs
  go_enter Tryz.func77, Tryz.ntmps77
  go_wp2_with fail
  go_ret
  exact ⟨by rw [fin.out];try rfl,rfl⟩
 have n15:=hs;clear hs
 by_cases hs:s.toList=[76,71,84]
 ·have fin:Hid (aI s=2):=by unfold Hid aI;rw [hs];decide
  have e0:(s.toList==[83,73,90,69])=false:=by rw [hs];rfl
  have e1:(s.toList==[84,82,73,77])=false:=by rw [hs];rfl
  have e2:(s.toList==[82,69,86,69,82,83,69])=false:=by rw [hs];rfl
  have e3:(s.toList==[82,79,79,84])=false:=by rw [hs];rfl
  have e4:(s.toList==[73,78,84,69,71,69,82])=false:=by rw [hs];rfl
  have e5:(s.toList==[68,85,80,76])=false:=by rw [hs];rfl
  have e6:(s.toList==[82,79,84,65,84,69])=false:=by rw [hs];rfl
  have e7:(s.toList==[67,79,85,78,84])=false:=by rw [hs];rfl
  have e8:(s.toList==[69,81])=false:=by rw [hs];rfl
  have e9:(s.toList==[78,69])=false:=by rw [hs];rfl
  have e10:(s.toList==[76,84])=false:=by rw [hs];rfl
  have e11:(s.toList==[76,69])=false:=by rw [hs];rfl
  have e12:(s.toList==[71,84])=false:=by rw [hs];rfl
  have e13:(s.toList==[71,69])=false:=by rw [hs];rfl
  have e14:(s.toList==[73,68,69,78,84])=false:=by rw [hs];rfl
  have e15:(s.toList==[68,73,70,70,69,82])=false:=by rw [hs];rfl
  have e16:(s.toList==[76,71,84])=true:=by rw [hs];rfl
  clear hs
  go_enter Tryz.func77, Tryz.ntmps77
  go_wp2_with fail
  go_ret
  exact ⟨by rw [fin.out];try rfl,rfl⟩
 have n16:=hs;clear hs
 by_cases hs:s.toList=[82,69,77,68,82]
 ·have fin:Hid (aI s=2):=by unfold Hid aI;rw [hs];decide
  have e0:(s.toList==[83,73,90,69])=false:=by rw [hs];rfl
  have e1:(s.toList==[84,82,73,77])=false:=by rw [hs];rfl
  have e2:(s.toList==[82,69,86,69,82,83,69])=false:=by rw [hs];rfl
  have e3:(s.toList==[82,79,79,84])=false:=by rw [hs];rfl
  have e4:(s.toList==[73,78,84,69,71,69,82])=false:=by rw [hs];rfl
  have e5:(s.toList==[68,85,80,76])=false:=by rw [hs];rfl
  have e6:(s.toList==[82,79,84,65,84,69])=false:=by rw [hs];rfl
  have e7:(s.toList==[67,79,85,78,84])=false:=by rw [hs];rfl
  have e8:(s.toList==[69,81])=false:=by rw [hs];rfl
  have e9:(s.toList==[78,69])=false:=by rw [hs];rfl
  have e10:(s.toList==[76,84])=false:=by rw [hs];rfl
  have e11:(s.toList==[76,69])=false:=by rw [hs];rfl
  have e12:(s.toList==[71,84])=false:=by rw [hs];rfl
  have e13:(s.toList==[71,69])=false:=by rw [hs];rfl
  have e14:(s.toList==[73,68,69,78,84])=false:=by rw [hs];rfl
  have e15:(s.toList==[68,73,70,70,69,82])=false:=by rw [hs];rfl
  have e16:(s.toList==[76,71,84])=false:=by rw [hs];rfl
  have e17:(s.toList==[82,69,77,68,82])=true:=by rw [hs];rfl
  clear hs
  go_enter Tryz.func77, Tryz.ntmps77
  go_wp2_with fail
  go_ret
  exact ⟨by rw [fin.out];try rfl,rfl⟩
 have n17:=hs;clear hs
 by_cases hs:s.toList=[80,79,87,69,82]
 ·have fin:Hid (aI s=2):=by unfold Hid aI;rw [hs];decide
  have e0:(s.toList==[83,73,90,69])=false:=by rw [hs];rfl
  have e1:(s.toList==[84,82,73,77])=false:=by rw [hs];rfl
  have e2:(s.toList==[82,69,86,69,82,83,69])=false:=by rw [hs];rfl
  have e3:(s.toList==[82,79,79,84])=false:=by rw [hs];rfl
  have e4:(s.toList==[73,78,84,69,71,69,82])=false:=by rw [hs];rfl
  have e5:(s.toList==[68,85,80,76])=false:=by rw [hs];rfl
  have e6:(s.toList==[82,79,84,65,84,69])=false:=by rw [hs];rfl
  have e7:(s.toList==[67,79,85,78,84])=false:=by rw [hs];rfl
  have e8:(s.toList==[69,81])=false:=by rw [hs];rfl
  have e9:(s.toList==[78,69])=false:=by rw [hs];rfl
  have e10:(s.toList==[76,84])=false:=by rw [hs];rfl
  have e11:(s.toList==[76,69])=false:=by rw [hs];rfl
  have e12:(s.toList==[71,84])=false:=by rw [hs];rfl
  have e13:(s.toList==[71,69])=false:=by rw [hs];rfl
  have e14:(s.toList==[73,68,69,78,84])=false:=by rw [hs];rfl
  have e15:(s.toList==[68,73,70,70,69,82])=false:=by rw [hs];rfl
  have e16:(s.toList==[76,71,84])=false:=by rw [hs];rfl
  have e17:(s.toList==[82,69,77,68,82])=false:=by rw [hs];rfl
  have e18:(s.toList==[80,79,87,69,82])=true:=by rw [hs];rfl
  clear hs
  go_enter Tryz.func77, Tryz.ntmps77
  go_wp2_with fail
  go_ret
  exact ⟨by rw [fin.out];try rfl,rfl⟩
 have n18:=hs;clear hs
 by_cases hs:s.toList=[71,67,68]
 ·have fin:Hid (aI s=2):=by unfold Hid aI;rw [hs];decide
  have e0:(s.toList==[83,73,90,69])=false:=by rw [hs];rfl
  have e1:(s.toList==[84,82,73,77])=false:=by rw [hs];rfl
  have e2:(s.toList==[82,69,86,69,82,83,69])=false:=by rw [hs];rfl
  have e3:(s.toList==[82,79,79,84])=false:=by rw [hs];rfl
  have e4:(s.toList==[73,78,84,69,71,69,82])=false:=by rw [hs];rfl
  have e5:(s.toList==[68,85,80,76])=false:=by rw [hs];rfl
  have e6:(s.toList==[82,79,84,65,84,69])=false:=by rw [hs];rfl
  have e7:(s.toList==[67,79,85,78,84])=false:=by rw [hs];rfl
  have e8:(s.toList==[69,81])=false:=by rw [hs];rfl
  have e9:(s.toList==[78,69])=false:=by rw [hs];rfl
  have e10:(s.toList==[76,84])=false:=by rw [hs];rfl
  have e11:(s.toList==[76,69])=false:=by rw [hs];rfl
  have e12:(s.toList==[71,84])=false:=by rw [hs];rfl
  have e13:(s.toList==[71,69])=false:=by rw [hs];rfl
  have e14:(s.toList==[73,68,69,78,84])=false:=by rw [hs];rfl
  have e15:(s.toList==[68,73,70,70,69,82])=false:=by rw [hs];rfl
  have e16:(s.toList==[76,71,84])=false:=by rw [hs];rfl
  have e17:(s.toList==[82,69,77,68,82])=false:=by rw [hs];rfl
  have e18:(s.toList==[80,79,87,69,82])=false:=by rw [hs];rfl
  have e19:(s.toList==[71,67,68])=true:=by rw [hs];rfl
  clear hs
  go_enter Tryz.func77, Tryz.ntmps77
  go_wp2_with fail
  go_ret
  exact ⟨by rw [fin.out];try rfl,rfl⟩
 have n19:=hs;clear hs
 by_cases hs:s.toList=[66,65,83,69]
 ·have fin:Hid (aI s=2):=by unfold Hid aI;rw [hs];decide
  have e0:(s.toList==[83,73,90,69])=false:=by rw [hs];rfl
  have e1:(s.toList==[84,82,73,77])=false:=by rw [hs];rfl
  have e2:(s.toList==[82,69,86,69,82,83,69])=false:=by rw [hs];rfl
  have e3:(s.toList==[82,79,79,84])=false:=by rw [hs];rfl
  have e4:(s.toList==[73,78,84,69,71,69,82])=false:=by rw [hs];rfl
  have e5:(s.toList==[68,85,80,76])=false:=by rw [hs];rfl
  have e6:(s.toList==[82,79,84,65,84,69])=false:=by rw [hs];rfl
  have e7:(s.toList==[67,79,85,78,84])=false:=by rw [hs];rfl
  have e8:(s.toList==[69,81])=false:=by rw [hs];rfl
  have e9:(s.toList==[78,69])=false:=by rw [hs];rfl
  have e10:(s.toList==[76,84])=false:=by rw [hs];rfl
  have e11:(s.toList==[76,69])=false:=by rw [hs];rfl
  have e12:(s.toList==[71,84])=false:=by rw [hs];rfl
  have e13:(s.toList==[71,69])=false:=by rw [hs];rfl
  have e14:(s.toList==[73,68,69,78,84])=false:=by rw [hs];rfl
  have e15:(s.toList==[68,73,70,70,69,82])=false:=by rw [hs];rfl
  have e16:(s.toList==[76,71,84])=false:=by rw [hs];rfl
  have e17:(s.toList==[82,69,77,68,82])=false:=by rw [hs];rfl
  have e18:(s.toList==[80,79,87,69,82])=false:=by rw [hs];rfl
  have e19:(s.toList==[71,67,68])=false:=by rw [hs];rfl
  have e20:(s.toList==[66,65,83,69])=true:=by rw [hs];rfl
  clear hs
  go_enter Tryz.func77, Tryz.ntmps77
  go_wp2_with fail
  go_ret
  exact ⟨by rw [fin.out];try rfl,rfl⟩
 have n20:=hs;clear hs
 by_cases hs:s.toList=[85,78,66,65,83,69]
 ·have fin:Hid (aI s=2):=by unfold Hid aI;rw [hs];decide
  have e0:(s.toList==[83,73,90,69])=false:=by rw [hs];rfl
  have e1:(s.toList==[84,82,73,77])=false:=by rw [hs];rfl
  have e2:(s.toList==[82,69,86,69,82,83,69])=false:=by rw [hs];rfl
  have e3:(s.toList==[82,79,79,84])=false:=by rw [hs];rfl
  have e4:(s.toList==[73,78,84,69,71,69,82])=false:=by rw [hs];rfl
  have e5:(s.toList==[68,85,80,76])=false:=by rw [hs];rfl
  have e6:(s.toList==[82,79,84,65,84,69])=false:=by rw [hs];rfl
  have e7:(s.toList==[67,79,85,78,84])=false:=by rw [hs];rfl
  have e8:(s.toList==[69,81])=false:=by rw [hs];rfl
  have e9:(s.toList==[78,69])=false:=by rw [hs];rfl
  have e10:(s.toList==[76,84])=false:=by rw [hs];rfl
  have e11:(s.toList==[76,69])=false:=by rw [hs];rfl
  have e12:(s.toList==[71,84])=false:=by rw [hs];rfl
  have e13:(s.toList==[71,69])=false:=by rw [hs];rfl
  have e14:(s.toList==[73,68,69,78,84])=false:=by rw [hs];rfl
  have e15:(s.toList==[68,73,70,70,69,82])=false:=by rw [hs];rfl
  have e16:(s.toList==[76,71,84])=false:=by rw [hs];rfl
  have e17:(s.toList==[82,69,77,68,82])=false:=by rw [hs];rfl
  have e18:(s.toList==[80,79,87,69,82])=false:=by rw [hs];rfl
  have e19:(s.toList==[71,67,68])=false:=by rw [hs];rfl
  have e20:(s.toList==[66,65,83,69])=false:=by rw [hs];rfl
  have e21:(s.toList==[85,78,66,65,83,69])=true:=by rw [hs];rfl
  clear hs
  go_enter Tryz.func77, Tryz.ntmps77
  go_wp2_with fail
  go_ret
  exact ⟨by rw [fin.out];try rfl,rfl⟩
 have n21:=hs;clear hs
 by_cases hs:s.toList=[82,69,80,76,65,67,69]
 ·have fin:Hid (aI s=3):=by unfold Hid aI;rw [hs];decide
  have e0:(s.toList==[83,73,90,69])=false:=by rw [hs];rfl
  have e1:(s.toList==[84,82,73,77])=false:=by rw [hs];rfl
  have e2:(s.toList==[82,69,86,69,82,83,69])=false:=by rw [hs];rfl
  have e3:(s.toList==[82,79,79,84])=false:=by rw [hs];rfl
  have e4:(s.toList==[73,78,84,69,71,69,82])=false:=by rw [hs];rfl
  have e5:(s.toList==[68,85,80,76])=false:=by rw [hs];rfl
  have e6:(s.toList==[82,79,84,65,84,69])=false:=by rw [hs];rfl
  have e7:(s.toList==[67,79,85,78,84])=false:=by rw [hs];rfl
  have e8:(s.toList==[69,81])=false:=by rw [hs];rfl
  have e9:(s.toList==[78,69])=false:=by rw [hs];rfl
  have e10:(s.toList==[76,84])=false:=by rw [hs];rfl
  have e11:(s.toList==[76,69])=false:=by rw [hs];rfl
  have e12:(s.toList==[71,84])=false:=by rw [hs];rfl
  have e13:(s.toList==[71,69])=false:=by rw [hs];rfl
  have e14:(s.toList==[73,68,69,78,84])=false:=by rw [hs];rfl
  have e15:(s.toList==[68,73,70,70,69,82])=false:=by rw [hs];rfl
  have e16:(s.toList==[76,71,84])=false:=by rw [hs];rfl
  have e17:(s.toList==[82,69,77,68,82])=false:=by rw [hs];rfl
  have e18:(s.toList==[80,79,87,69,82])=false:=by rw [hs];rfl
  have e19:(s.toList==[71,67,68])=false:=by rw [hs];rfl
  have e20:(s.toList==[66,65,83,69])=false:=by rw [hs];rfl
  have e21:(s.toList==[85,78,66,65,83,69])=false:=by rw [hs];rfl
  have e22:(s.toList==[82,69,80,76,65,67,69])=true:=by rw [hs];rfl
  clear hs
  go_enter Tryz.func77, Tryz.ntmps77
  go_wp2_with fail
  go_ret
  exact ⟨by rw [fin.out];try rfl,rfl⟩
 have n22:=hs;clear hs
 by_cases hs:s.toList=[83,85,66,83,84,82]
 ·have fin:Hid (aI s=3):=by unfold Hid aI;rw [hs];decide
  have e0:(s.toList==[83,73,90,69])=false:=by rw [hs];rfl
  have e1:(s.toList==[84,82,73,77])=false:=by rw [hs];rfl
  have e2:(s.toList==[82,69,86,69,82,83,69])=false:=by rw [hs];rfl
  have e3:(s.toList==[82,79,79,84])=false:=by rw [hs];rfl
  have e4:(s.toList==[73,78,84,69,71,69,82])=false:=by rw [hs];rfl
  have e5:(s.toList==[68,85,80,76])=false:=by rw [hs];rfl
  have e6:(s.toList==[82,79,84,65,84,69])=false:=by rw [hs];rfl
  have e7:(s.toList==[67,79,85,78,84])=false:=by rw [hs];rfl
  have e8:(s.toList==[69,81])=false:=by rw [hs];rfl
  have e9:(s.toList==[78,69])=false:=by rw [hs];rfl
  have e10:(s.toList==[76,84])=false:=by rw [hs];rfl
  have e11:(s.toList==[76,69])=false:=by rw [hs];rfl
  have e12:(s.toList==[71,84])=false:=by rw [hs];rfl
  have e13:(s.toList==[71,69])=false:=by rw [hs];rfl
  have e14:(s.toList==[73,68,69,78,84])=false:=by rw [hs];rfl
  have e15:(s.toList==[68,73,70,70,69,82])=false:=by rw [hs];rfl
  have e16:(s.toList==[76,71,84])=false:=by rw [hs];rfl
  have e17:(s.toList==[82,69,77,68,82])=false:=by rw [hs];rfl
  have e18:(s.toList==[80,79,87,69,82])=false:=by rw [hs];rfl
  have e19:(s.toList==[71,67,68])=false:=by rw [hs];rfl
  have e20:(s.toList==[66,65,83,69])=false:=by rw [hs];rfl
  have e21:(s.toList==[85,78,66,65,83,69])=false:=by rw [hs];rfl
  have e22:(s.toList==[82,69,80,76,65,67,69])=false:=by rw [hs];rfl
  have e23:(s.toList==[83,85,66,83,84,82])=true:=by rw [hs];rfl
  clear hs
  go_enter Tryz.func77, Tryz.ntmps77
  go_wp2_with fail
  go_ret
  exact ⟨by rw [fin.out];try rfl,rfl⟩
 have n23:=hs;clear hs
 by_cases hs:s.toList=[76,80,65,68]
 ·have fin:Hid (aI s=3):=by unfold Hid aI;rw [hs];decide
  have e0:(s.toList==[83,73,90,69])=false:=by rw [hs];rfl
  have e1:(s.toList==[84,82,73,77])=false:=by rw [hs];rfl
  have e2:(s.toList==[82,69,86,69,82,83,69])=false:=by rw [hs];rfl
  have e3:(s.toList==[82,79,79,84])=false:=by rw [hs];rfl
  have e4:(s.toList==[73,78,84,69,71,69,82])=false:=by rw [hs];rfl
  have e5:(s.toList==[68,85,80,76])=false:=by rw [hs];rfl
  have e6:(s.toList==[82,79,84,65,84,69])=false:=by rw [hs];rfl
  have e7:(s.toList==[67,79,85,78,84])=false:=by rw [hs];rfl
  have e8:(s.toList==[69,81])=false:=by rw [hs];rfl
  have e9:(s.toList==[78,69])=false:=by rw [hs];rfl
  have e10:(s.toList==[76,84])=false:=by rw [hs];rfl
  have e11:(s.toList==[76,69])=false:=by rw [hs];rfl
  have e12:(s.toList==[71,84])=false:=by rw [hs];rfl
  have e13:(s.toList==[71,69])=false:=by rw [hs];rfl
  have e14:(s.toList==[73,68,69,78,84])=false:=by rw [hs];rfl
  have e15:(s.toList==[68,73,70,70,69,82])=false:=by rw [hs];rfl
  have e16:(s.toList==[76,71,84])=false:=by rw [hs];rfl
  have e17:(s.toList==[82,69,77,68,82])=false:=by rw [hs];rfl
  have e18:(s.toList==[80,79,87,69,82])=false:=by rw [hs];rfl
  have e19:(s.toList==[71,67,68])=false:=by rw [hs];rfl
  have e20:(s.toList==[66,65,83,69])=false:=by rw [hs];rfl
  have e21:(s.toList==[85,78,66,65,83,69])=false:=by rw [hs];rfl
  have e22:(s.toList==[82,69,80,76,65,67,69])=false:=by rw [hs];rfl
  have e23:(s.toList==[83,85,66,83,84,82])=false:=by rw [hs];rfl
  have e24:(s.toList==[76,80,65,68])=true:=by rw [hs];rfl
  clear hs
  go_enter Tryz.func77, Tryz.ntmps77
  go_wp2_with fail
  go_ret
  exact ⟨by rw [fin.out];try rfl,rfl⟩
 have n24:=hs;clear hs
 by_cases hs:s.toList=[82,80,65,68]
 ·have fin:Hid (aI s=3):=by unfold Hid aI;rw [hs];decide
  have e0:(s.toList==[83,73,90,69])=false:=by rw [hs];rfl
  have e1:(s.toList==[84,82,73,77])=false:=by rw [hs];rfl
  have e2:(s.toList==[82,69,86,69,82,83,69])=false:=by rw [hs];rfl
  have e3:(s.toList==[82,79,79,84])=false:=by rw [hs];rfl
  have e4:(s.toList==[73,78,84,69,71,69,82])=false:=by rw [hs];rfl
  have e5:(s.toList==[68,85,80,76])=false:=by rw [hs];rfl
  have e6:(s.toList==[82,79,84,65,84,69])=false:=by rw [hs];rfl
  have e7:(s.toList==[67,79,85,78,84])=false:=by rw [hs];rfl
  have e8:(s.toList==[69,81])=false:=by rw [hs];rfl
  have e9:(s.toList==[78,69])=false:=by rw [hs];rfl
  have e10:(s.toList==[76,84])=false:=by rw [hs];rfl
  have e11:(s.toList==[76,69])=false:=by rw [hs];rfl
  have e12:(s.toList==[71,84])=false:=by rw [hs];rfl
  have e13:(s.toList==[71,69])=false:=by rw [hs];rfl
  have e14:(s.toList==[73,68,69,78,84])=false:=by rw [hs];rfl
  have e15:(s.toList==[68,73,70,70,69,82])=false:=by rw [hs];rfl
  have e16:(s.toList==[76,71,84])=false:=by rw [hs];rfl
  have e17:(s.toList==[82,69,77,68,82])=false:=by rw [hs];rfl
  have e18:(s.toList==[80,79,87,69,82])=false:=by rw [hs];rfl
  have e19:(s.toList==[71,67,68])=false:=by rw [hs];rfl
  have e20:(s.toList==[66,65,83,69])=false:=by rw [hs];rfl
  have e21:(s.toList==[85,78,66,65,83,69])=false:=by rw [hs];rfl
  have e22:(s.toList==[82,69,80,76,65,67,69])=false:=by rw [hs];rfl
  have e23:(s.toList==[83,85,66,83,84,82])=false:=by rw [hs];rfl
  have e24:(s.toList==[76,80,65,68])=false:=by rw [hs];rfl
  have e25:(s.toList==[82,80,65,68])=true:=by rw [hs];rfl
  clear hs
  go_enter Tryz.func77, Tryz.ntmps77
  go_wp2_with fail
  go_ret
  exact ⟨by rw [fin.out];try rfl,rfl⟩
 have n25:=hs;clear hs
 have fin:Hid (aI s = -1):=by
  unfold Hid aI
  rw [if_neg,if_neg,if_neg]
  ·simp only [ML,List.mem_cons,List.not_mem_nil,or_false,not_or];exact ⟨n22,n23,n24,n25⟩
  ·simp only [MK,List.mem_cons,List.not_mem_nil,or_false,not_or];exact ⟨n5,n6,n7,n8,n9,n10,n11,n12,n13,n14,n15,n16,n17,n18,n19,n20,n21⟩
  ·simp only [MJ,List.mem_cons,List.not_mem_nil,or_false,not_or];exact ⟨n0,n1,n2,n3,n4⟩
 have e0:(s.toList==[83,73,90,69])=false:=by simpa using n0
 have e1:(s.toList==[84,82,73,77])=false:=by simpa using n1
 have e2:(s.toList==[82,69,86,69,82,83,69])=false:=by simpa using n2
 have e3:(s.toList==[82,79,79,84])=false:=by simpa using n3
 have e4:(s.toList==[73,78,84,69,71,69,82])=false:=by simpa using n4
 have e5:(s.toList==[68,85,80,76])=false:=by simpa using n5
 have e6:(s.toList==[82,79,84,65,84,69])=false:=by simpa using n6
 have e7:(s.toList==[67,79,85,78,84])=false:=by simpa using n7
 have e8:(s.toList==[69,81])=false:=by simpa using n8
 have e9:(s.toList==[78,69])=false:=by simpa using n9
 have e10:(s.toList==[76,84])=false:=by simpa using n10
 have e11:(s.toList==[76,69])=false:=by simpa using n11
 have e12:(s.toList==[71,84])=false:=by simpa using n12
 have e13:(s.toList==[71,69])=false:=by simpa using n13
 have e14:(s.toList==[73,68,69,78,84])=false:=by simpa using n14
 have e15:(s.toList==[68,73,70,70,69,82])=false:=by simpa using n15
 have e16:(s.toList==[76,71,84])=false:=by simpa using n16
 have e17:(s.toList==[82,69,77,68,82])=false:=by simpa using n17
 have e18:(s.toList==[80,79,87,69,82])=false:=by simpa using n18
 have e19:(s.toList==[71,67,68])=false:=by simpa using n19
 have e20:(s.toList==[66,65,83,69])=false:=by simpa using n20
 have e21:(s.toList==[85,78,66,65,83,69])=false:=by simpa using n21
 have e22:(s.toList==[82,69,80,76,65,67,69])=false:=by simpa using n22
 have e23:(s.toList==[83,85,66,83,84,82])=false:=by simpa using n23
 have e24:(s.toList==[76,80,65,68])=false:=by simpa using n24
 have e25:(s.toList==[82,80,65,68])=false:=by simpa using n25
 clear n0 n1 n2 n3 n4 n5 n6 n7 n8 n9 n10 n11 n12 n13 n14 n15 n16 n17 n18 n19 n20 n21 n22 n23 n24 n25
 go_enter Tryz.func77, Tryz.ntmps77
 go_wp2_with fail
 go_ret
 exact ⟨by rw [fin.out];try rfl,rfl⟩
theorem E9 (s:aj) (w:World):Calls Tryz.prog 75 #[.string s] w fun e w'=>e=.returned (.bool (qN s))∧w'=w:=by
 cases e1:(s.toList==[69,78,68])<;>cases e2:(s.toList==[82,69,84,85,82,78])<;>cases e3:(s.toList==[70,82,69,84,85,82,78])
 all_goals
  have fin:=ah (show qN s=_ by unfold qN;rw [e1,e2,e3])
  go_enter Tryz.func75, Tryz.ntmps75
  go_wp2_with fail
  go_ret
  exact ⟨by rw [fin.out];try rfl,rfl⟩
end Go.Proofs.YtodebjhalipefaaGreatDoor

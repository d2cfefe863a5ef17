/-  -/
import Derived.Test.YtgoijmpahffnhaaGreatDoorWin
import Derived.Test.YtgoijmpahffnhaaGreatDoorLq7
namespace Go.Proofs.YtgoijmpahffnhaaGreatDoor
set_option linter.all false
open Go.RowKit
set_option maxRecDepth 100000
set_option maxHeartbeats 4000000
abbrev jM:=List (aj×aj)
def gB (l:jM):List Value:=l.flatMap fun x=>[.string x.1,.string x.2]
def agw:Op→aj
 | Op.build _ ps=>match ps[1]?.map Prod.snd with
  | some (Operand.const (Value.string b))=>b
  | _=>⟨#[]⟩
 | _=>⟨#[]⟩
def dP (f:Func) (k:Nat):aj :=
 match f.body with
 | some (Code.seq _ (Code.seq (Code.region _ ops _) _)) =>
  match ops[k]? with
  | some o=>agw o.op
  | none=>⟨#[]⟩
 | _=>⟨#[]⟩
noncomputable def Zi:aj:=dP Tryz.f29 0
noncomputable def SG:aj:=dP Tryz.f29 1
noncomputable def sO:aj:=dP Tryz.f29 2
noncomputable def agx:aj:=dP Tryz.f29 3
noncomputable def WS:aj:=dP Tryz.f29 4
noncomputable def acA:aj:=dP Tryz.f29 5
noncomputable def Zj:aj:=dP Tryz.f29 6
noncomputable def SH:aj:=dP Tryz.f29 7
noncomputable def Zk:aj:=dP Tryz.f29 8
noncomputable def O1:aj:=dP Tryz.f29 9
noncomputable def Pe:aj:=dP Tryz.f29 10
noncomputable def Zl:aj:=dP Tryz.f29 11
noncomputable def acB:aj:=dP Tryz.f29 12
noncomputable def ae2:aj:=dP Tryz.f29 13
noncomputable def qG:aj:=dP Tryz.f29 14
noncomputable def sQ:aj:=dP Tryz.f30 0
noncomputable def Zm:aj:=dP Tryz.f30 1
noncomputable def Zn:aj:=dP Tryz.f30 2
noncomputable def Zo:aj:=dP Tryz.f30 3
noncomputable def acC:aj:=dP Tryz.f30 4
noncomputable def qH:aj:=dP Tryz.f30 5
noncomputable def acD:aj:=dP Tryz.f30 6
noncomputable def ae3:aj:=dP Tryz.f30 7
noncomputable def WT:aj:=dP Tryz.f30 8
noncomputable def agy:aj:=dP Tryz.f30 9
noncomputable def Zp:aj:=dP Tryz.f30 10
noncomputable def vC:aj:=dP Tryz.f30 11
noncomputable def Zq:aj:=dP Tryz.f30 12
noncomputable def acE:aj:=dP Tryz.f30 13
noncomputable def zL:jM:=[(⟨#[98,105,110,97,114,121]⟩,Zi),(⟨#[98,114,97,99,107,101,116,115]⟩,SG),(⟨#[99,97,101,115,97,114]⟩,sO),(⟨#[99,97,116]⟩,agx),(⟨#[99,111,108,108,97,116,122]⟩,WS),(⟨#[99,111,117,110,116]⟩,acA),(⟨#[100,105,103,105,116,115]⟩,Zj),(⟨#[100,105,118,105,115,111,114,115]⟩,SH),(⟨#[101,117,99,108,105,100]⟩,Zk),(⟨#[102,97,99,116,111,114,105,97,108]⟩,O1),(⟨#[102,105,98,111,110,97,99,99,105]⟩,Pe),(⟨#[102,105,101,108,100,115]⟩,Zl),(⟨#[104,97,110,111,105]⟩,acB),(⟨#[104,101,97,100]⟩,ae2),(⟨#[108,111,110,103,101,115,116]⟩,qG)]
noncomputable def yw:jM:=[(⟨#[109,105,114,114,111,114]⟩,sQ),(⟨#[110,117,109,98,101,114]⟩,Zm),(⟨#[112,97,115,99,97,108]⟩,Zn),(⟨#[112,114,105,109,101,115]⟩,Zo),(⟨#[114,97,110,103,101]⟩,acC),(⟨#[114,101,118,101,114,115,101]⟩,qH),(⟨#[114,111,109,97,110]⟩,acD),(⟨#[115,111,114,116]⟩,ae3),(⟨#[115,113,117,101,101,122,101]⟩,WT),(⟨#[115,117,109]⟩,agy),(⟨#[117,110,105,113,117,101]⟩,Zp),(⟨#[117,112,112,101,114]⟩,vC),(⟨#[118,111,119,101,108,115]⟩,Zq),(⟨#[119,111,114,100,115]⟩,acE)]
noncomputable def pV:jM:=zL++yw
theorem Pg (a b:jM):gB (a++b)=gB a++gB b:=by unfold gB;rw [List.flatMap_append]
theorem LC (l:jM):(gB l).length=l.length*2:=by
 unfold gB
 induction l with
 | nil=>rfl
 | cons x r ih=>rw [List.flatMap_cons,List.length_append,ih];simp;omega
theorem Ph (l:jM) (j:Nat) (h:j<l.length):(gB l)[j*2]?=some (.string l[j].1)∧(gB l)[j*2+1]?=some (.string l[j].2):=by
 unfold gB
 induction l generalizing j with
 | nil=>simp at h
 | cons x r ih =>
  cases j with
  | zero=>exact ⟨rfl,rfl⟩
  | succ j =>
   have:=ih j (by simpa using h)
   rw [show (j+1)*2=j*2+1+1 by omega,show j*2+1+1+1=j*2+1+1+1 from rfl,List.flatMap_cons]
   exact this
theorem Zr (l:jM):∀u∈gB l,u.oneCell'=true:=by
 intro u hu
 unfold gB at hu
 obtain ⟨x,_,hx⟩:=List.mem_flatMap.1 hu
 simp at hx
 rcases hx with rfl|rfl<;>rfl
theorem Zt:(Tryz.prog.info? 49).map (fun i=>(i.zero,i.size,i.bytes))=some (some (.agg #[.string ⟨#[]⟩,.string ⟨#[]⟩]),2,32):=by kernel_rfl
theorem Zu (w:World):Calls Tryz.prog 29 #[] w (fun e w'=>e=.returned (.slice (some ⟨w.heap.size,0,none⟩) 15 15)∧w'=w.alloc (.cells (gB zL).toArray 49)):=by
 go_enter Tryz.func29, Tryz.ntmps29
 go_wp2_with fail
 go_ret
 refine ⟨rfl,?_⟩
 refine congrArg (fun x=>w.alloc (.cells x 49)) ?_
 kernel_rfl
theorem acF (w:World):Calls Tryz.prog 30 #[] w (fun e w'=>e=.returned (.slice (some ⟨w.heap.size,0,none⟩) 14 14)∧w'=w.alloc (.cells (gB yw).toArray 49)):=by
 go_enter Tryz.func30, Tryz.ntmps30
 go_wp2_with fail
 go_ret
 refine ⟨rfl,?_⟩
 refine congrArg (fun x=>w.alloc (.cells x 49)) ?_
 kernel_rfl
def acG (w:World) (e:Ending) (w':World):Prop:=∃a c,e=.returned (.slice a 29 c)∧aO w' w.heap.size 49 2 (.slice a 29 c) 29 (gB pV)∧Kept aA w w'
theorem SI (w:World):Calls Tryz.prog 19 #[] w (acG w):=by
 obtain ⟨i0,hi0,hz0,hz1,hz2⟩:=info_parts Zt
 obtain ⟨w1,hw1⟩:∃w1,w1=w.alloc (.cells (gB zL).toArray 49):=⟨_,rfl⟩
 have k1:Kept aA w w1:=by rw [hw1];exact (Kept.refl _ _).alloc _
 have r1:w1.heap[w.heap.size]?=some (.cells (gB zL).toArray 49 (0,0)):=by rw [hw1];exact ay w _
 obtain ⟨w2,hw2⟩:∃w2,w2=w1.alloc (.cells (gB yw).toArray 49):=⟨_,rfl⟩
 have k2:Kept aA w1 w2:=by rw [hw2];exact (Kept.refl _ _).alloc _
 have r2:w2.heap[w1.heap.size]?=some (.cells (gB yw).toArray 49 (0,0)):=by rw [hw2];exact ay w1 _
 have r1':w2.heap[w.heap.size]?=some (.cells (gB zL).toArray 49 (0,0)):=by rw [k2.block _ (Array.getElem?_eq_some_iff.1 r1).1 (fun h=>h)];exact r1
 have hE:(gB zL).length=30:=by rw [LC];rfl
 have hL:(gB yw).length=28:=by rw [LC];rfl
 have hW:aO w2 w.heap.size 49 2 (.slice (some ⟨w.heap.size,0,none⟩) 15 15) 15 (gB zL):=⟨by rw [hE],.inr ⟨w.heap.size,0,15,_,rfl,Nat.le_refl _,r1',Nat.le_refl _,by unfold maxLen;decide,by simp [hE],by (simp only [List.drop_zero];exact List.take_of_length_le (by simp [hE]))⟩⟩
 have hS:Src Tryz.prog 2 45 (.slice (some ⟨w1.heap.size,0,none⟩) 14 14) 14 (gB yw) w2 :=
  Src.ofSlice _ Tryz.underlying45 _ _ _ _ (by rw [hL]) (by have:=World.news_of_block (fr:=(0,0)) (cs:=(gB yw).toArray) r2;simpa using this) (Zr yw)
 have HE:=ah (Zu w);have HLt:=ah (acF w1)
 have HW:=ah hW;have HSr:=ah hS
 rw [←hw1] at HE
 rw [←hw2] at HLt
 have hsz:=k1.size;have hsz2:=k2.size
 have K2:=ah (k1.trans k2)
 clear hw1 hw2 r1 r2 r1' k1 k2 hW hS
 go_enter Tryz.func19, Tryz.ntmps19
 go_wp2_with (first
  | (go_at_call 29;(refine HE.out.mono ?_);rintro e w' ⟨rfl,aI⟩;obtain rfl:=aI.symm)
  | (go_at_call 30;(refine HLt.out.mono ?_);rintro e w' ⟨rfl,aI⟩;obtain rfl:=aI.symm)
  | (refine dM w2 rfl (.tmp 1) (.tmp 2) 45 45 rfl w.heap.size 49 i0 (.agg #[.string ⟨#[]⟩,.string ⟨#[]⟩]) 2 32 Tryz.underlying45 hi0 hz0 hz1 hz2 rfl _ 15 (gB zL) rfl HW.out _ 14 (gB yw) rfl HSr.out (by unfold maxLen;decide) (by decide) (by omega) ?_;intro a3 c3 w3 hW3 hg3 ho3))
 have hK:Kept aA w w3:=(K2.out.grown hg3 (fun b hb=>.inr (HW.out.lt b hb).1))
 go_ret
 exact ⟨a3,c3,rfl,by rw [show gB pV=gB zL++gB yw from Pg zL yw];exact hW3,hK⟩
end Go.Proofs.YtgoijmpahffnhaaGreatDoor

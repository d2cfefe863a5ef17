/-  -/
import Derived.Test.YtgoijmpahffnhaaGreatDoorWin
import Derived.Test.YtgoijmpahffnhaaGreatDoorLc8
namespace Go.Proofs.YtgoijmpahffnhaaGreatDoor
set_option linter.all false
open Go.RowKit
set_option maxRecDepth 100000
set_option maxHeartbeats 4000000
abbrev kH:=List (aj×aj)
def ig (l:kH):List Value:=l.flatMap fun x=>[.string x.1,.string x.2]
def ady:Op→aj
 | Op.build _ ps=>match ps[1]?.map Prod.snd with
  | some (Operand.const (Value.string b))=>b
  | _=>⟨#[]⟩
 | _=>⟨#[]⟩
def dZ (f:Func) (k:Nat):aj :=
 match f.body with
 | some (Code.seq _ (Code.seq (Code.region _ ops _) _)) =>
  match ops[k]? with
  | some o=>ady o.op
  | none=>⟨#[]⟩
 | _=>⟨#[]⟩
noncomputable def VF:aj:=dZ Tryz.f29 0
noncomputable def Qc:aj:=dZ Tryz.f29 1
noncomputable def VG:aj:=dZ Tryz.f29 2
noncomputable def CS:aj:=dZ Tryz.f29 3
noncomputable def Tn:aj:=dZ Tryz.f29 4
noncomputable def Y8:aj:=dZ Tryz.f29 5
noncomputable def VH:aj:=dZ Tryz.f29 6
noncomputable def Qd:aj:=dZ Tryz.f29 7
noncomputable def VI:aj:=dZ Tryz.f29 8
noncomputable def Nv:aj:=dZ Tryz.f29 9
noncomputable def Nw:aj:=dZ Tryz.f29 10
noncomputable def VJ:aj:=dZ Tryz.f29 11
noncomputable def Y9:aj:=dZ Tryz.f29 12
noncomputable def abU:aj:=dZ Tryz.f29 13
noncomputable def Tq:aj:=dZ Tryz.f29 14
noncomputable def VK:aj:=dZ Tryz.f30 0
noncomputable def VL:aj:=dZ Tryz.f30 1
noncomputable def VN:aj:=dZ Tryz.f30 2
noncomputable def VO:aj:=dZ Tryz.f30 3
noncomputable def Za:aj:=dZ Tryz.f30 4
noncomputable def Tt:aj:=dZ Tryz.f30 5
noncomputable def Zb:aj:=dZ Tryz.f30 6
noncomputable def abV:aj:=dZ Tryz.f30 7
noncomputable def Tv:aj:=dZ Tryz.f30 8
noncomputable def adz:aj:=dZ Tryz.f30 9
noncomputable def VP:aj:=dZ Tryz.f30 10
noncomputable def Zc:aj:=dZ Tryz.f30 11
noncomputable def VQ:aj:=dZ Tryz.f30 12
noncomputable def Zd:aj:=dZ Tryz.f30 13
noncomputable def zD:kH:=[(⟨#[98,105,110,97,114,121]⟩,VF),(⟨#[98,114,97,99,107,101,116,115]⟩,Qc),(⟨#[99,97,101,115,97,114]⟩,VG),(⟨#[99,97,116]⟩,CS),(⟨#[99,111,108,108,97,116,122]⟩,Tn),(⟨#[99,111,117,110,116]⟩,Y8),(⟨#[100,105,103,105,116,115]⟩,VH),(⟨#[100,105,118,105,115,111,114,115]⟩,Qd),(⟨#[101,117,99,108,105,100]⟩,VI),(⟨#[102,97,99,116,111,114,105,97,108]⟩,Nv),(⟨#[102,105,98,111,110,97,99,99,105]⟩,Nw),(⟨#[102,105,101,108,100,115]⟩,VJ),(⟨#[104,97,110,111,105]⟩,Y9),(⟨#[104,101,97,100]⟩,abU),(⟨#[108,111,110,103,101,115,116]⟩,Tq)]
noncomputable def x9:kH:=[(⟨#[109,105,114,114,111,114]⟩,VK),(⟨#[110,117,109,98,101,114]⟩,VL),(⟨#[112,97,115,99,97,108]⟩,VN),(⟨#[112,114,105,109,101,115]⟩,VO),(⟨#[114,97,110,103,101]⟩,Za),(⟨#[114,101,118,101,114,115,101]⟩,Tt),(⟨#[114,111,109,97,110]⟩,Zb),(⟨#[115,111,114,116]⟩,abV),(⟨#[115,113,117,101,101,122,101]⟩,Tv),(⟨#[115,117,109]⟩,adz),(⟨#[117,110,105,113,117,101]⟩,VP),(⟨#[117,112,112,101,114]⟩,Zc),(⟨#[118,111,119,101,108,115]⟩,VQ),(⟨#[119,111,114,100,115]⟩,Zd)]
noncomputable def vC:kH:=zD++x9
theorem Ny (a b:kH):ig (a++b)=ig a++ig b:=by unfold ig;rw [List.flatMap_append]
theorem J4 (l:kH):(ig l).length=l.length*2:=by
 unfold ig
 induction l with
 | nil=>rfl
 | cons x r ih=>rw [List.flatMap_cons,List.length_append,ih];simp;omega
theorem Nz (l:kH) (j:Nat) (h:j<l.length):(ig l)[j*2]?=some (.string l[j].1)∧(ig l)[j*2+1]?=some (.string l[j].2):=by
 unfold ig
 induction l generalizing j with
 | nil=>simp at h
 | cons x r ih =>
  cases j with
  | zero=>exact ⟨rfl,rfl⟩
  | succ j =>
   have:=ih j (by simpa using h)
   rw [show (j+1)*2=j*2+1+1 by omega,show j*2+1+1+1=j*2+1+1+1 from rfl,List.flatMap_cons]
   exact this
theorem VR (l:kH):∀u∈ig l,u.oneCell'=true:=by
 intro u hu
 unfold ig at hu
 obtain ⟨x,_,hx⟩:=List.mem_flatMap.1 hu
 simp at hx
 rcases hx with rfl|rfl<;>rfl
theorem VT:(Tryz.prog.info? 49).map (fun i=>(i.zero,i.size,i.bytes))=some (some (.agg #[.string ⟨#[]⟩,.string ⟨#[]⟩]),2,32):=by kernel_rfl
theorem VU (w:World):Calls Tryz.prog 29 #[] w (fun e w'=>e=.returned (.slice (some ⟨w.heap.size,0,none⟩) 15 15)∧w'=w.alloc (.cells (ig zD).toArray 49)):=by
 go_enter Tryz.func29, Tryz.ntmps29
 go_wp2_with fail
 go_ret
 refine ⟨rfl,?_⟩
 refine congrArg (fun x=>w.alloc (.cells x 49)) ?_
 kernel_rfl
theorem Ze (w:World):Calls Tryz.prog 30 #[] w (fun e w'=>e=.returned (.slice (some ⟨w.heap.size,0,none⟩) 14 14)∧w'=w.alloc (.cells (ig x9).toArray 49)):=by
 go_enter Tryz.func30, Tryz.ntmps30
 go_wp2_with fail
 go_ret
 refine ⟨rfl,?_⟩
 refine congrArg (fun x=>w.alloc (.cells x 49)) ?_
 kernel_rfl
def Zf (w:World) (e:Ending) (w':World):Prop:=∃a c,e=.returned (.slice a 29 c)∧aS w' w.heap.size 49 2 (.slice a 29 c) 29 (ig vC)∧Kept aB w w'
theorem Qe (w:World):Calls Tryz.prog 19 #[] w (Zf w):=by
 obtain ⟨i0,hi0,hz0,hz1,hz2⟩:=info_parts VT
 obtain ⟨w1,hw1⟩:∃w1,w1=w.alloc (.cells (ig zD).toArray 49):=⟨_,rfl⟩
 have k1:Kept aB w w1:=by rw [hw1];exact (Kept.refl _ _).alloc _
 have r1:w1.heap[w.heap.size]?=some (.cells (ig zD).toArray 49 (0,0)):=by rw [hw1];exact ay w _
 obtain ⟨w2,hw2⟩:∃w2,w2=w1.alloc (.cells (ig x9).toArray 49):=⟨_,rfl⟩
 have k2:Kept aB w1 w2:=by rw [hw2];exact (Kept.refl _ _).alloc _
 have r2:w2.heap[w1.heap.size]?=some (.cells (ig x9).toArray 49 (0,0)):=by rw [hw2];exact ay w1 _
 have r1':w2.heap[w.heap.size]?=some (.cells (ig zD).toArray 49 (0,0)):=by rw [k2.block _ (Array.getElem?_eq_some_iff.1 r1).1 (fun h=>h)];exact r1
 have hE:(ig zD).length=30:=by rw [J4];rfl
 have hL:(ig x9).length=28:=by rw [J4];rfl
 have hW:aS w2 w.heap.size 49 2 (.slice (some ⟨w.heap.size,0,none⟩) 15 15) 15 (ig zD):=⟨by rw [hE],.inr ⟨w.heap.size,0,15,_,rfl,Nat.le_refl _,r1',Nat.le_refl _,by unfold maxLen;decide,by simp [hE],by (simp only [List.drop_zero];exact List.take_of_length_le (by simp [hE]))⟩⟩
 have hS:Src Tryz.prog 2 45 (.slice (some ⟨w1.heap.size,0,none⟩) 14 14) 14 (ig x9) w2 :=
  Src.ofSlice _ Tryz.underlying45 _ _ _ _ (by rw [hL]) (by have:=World.news_of_block (fr:=(0,0)) (cs:=(ig x9).toArray) r2;simpa using this) (VR x9)
 have HE:=ah (VU w);have HLt:=ah (Ze w1)
 have HW:=ah hW;have HSr:=ah hS
 rw [←hw1] at HE
 rw [←hw2] at HLt
 have hsz:=k1.size;have hsz2:=k2.size
 have K2:=ah (k1.trans k2)
 clear hw1 hw2 r1 r2 r1' k1 k2 hW hS
 go_enter Tryz.func19, Tryz.ntmps19
 go_wp2_with (first
  | (go_at_call 29;(refine HE.out.mono ?_);rintro e w' ⟨rfl,aK⟩;obtain rfl:=aK.symm)
  | (go_at_call 30;(refine HLt.out.mono ?_);rintro e w' ⟨rfl,aK⟩;obtain rfl:=aK.symm)
  | (refine dK w2 rfl (.tmp 1) (.tmp 2) 45 45 rfl w.heap.size 49 i0 (.agg #[.string ⟨#[]⟩,.string ⟨#[]⟩]) 2 32 Tryz.underlying45 hi0 hz0 hz1 hz2 rfl _ 15 (ig zD) rfl HW.out _ 14 (ig x9) rfl HSr.out (by unfold maxLen;decide) (by decide) (by omega) ?_;intro a3 c3 w3 hW3 hg3 ho3))
 have hK:Kept aB w w3:=(K2.out.grown hg3 (fun b hb=>.inr (HW.out.lt b hb).1))
 go_ret
 exact ⟨a3,c3,rfl,by rw [show ig vC=ig zD++ig x9 from Ny zD x9];exact hW3,hK⟩
end Go.Proofs.YtgoijmpahffnhaaGreatDoor

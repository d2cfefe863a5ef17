/-  -/
import Derived.Test.YtodebjhalipefaaGreatDoorLq11
namespace Go.Proofs.YtodebjhalipefaaGreatDoor
set_option linter.all false
open Go.RowKit
set_option maxRecDepth 100000
set_option maxHeartbeats 4000000
abbrev jF:=List (aj×aj)
def gu (l:jF):List Value:=l.flatMap fun x=>[.string x.1,.string x.2]
def aeV:Op→aj
 | Op.build _ ps=>match ps[1]?.map Prod.snd with
  | some (Operand.const (Value.string b))=>b
  | _=>⟨#[]⟩
 | _=>⟨#[]⟩
def dO (f:Func) (k:Nat):aj :=
 match f.body with
 | some (Code.seq _ (Code.seq (Code.region _ ops _) _)) =>
  match ops[k]? with
  | some o=>aeV o.op
  | none=>⟨#[]⟩
 | _=>⟨#[]⟩
noncomputable def XE:aj:=dO Tryz.f35 0
noncomputable def Qz:aj:=dO Tryz.f35 1
noncomputable def XF:aj:=dO Tryz.f35 2
noncomputable def aeW:aj:=dO Tryz.f35 3
noncomputable def UY:aj:=dO Tryz.f35 4
noncomputable def uF:aj:=dO Tryz.f35 5
noncomputable def XG:aj:=dO Tryz.f35 6
noncomputable def QA:aj:=dO Tryz.f35 7
noncomputable def XH:aj:=dO Tryz.f35 8
noncomputable def Oo:aj:=dO Tryz.f35 9
noncomputable def Oq:aj:=dO Tryz.f35 10
noncomputable def XI:aj:=dO Tryz.f35 11
noncomputable def aaP:aj:=dO Tryz.f35 12
noncomputable def adn:aj:=dO Tryz.f35 13
noncomputable def UZ:aj:=dO Tryz.f35 14
noncomputable def XJ:aj:=dO Tryz.f36 0
noncomputable def XK:aj:=dO Tryz.f36 1
noncomputable def XL:aj:=dO Tryz.f36 2
noncomputable def XM:aj:=dO Tryz.f36 3
noncomputable def aaQ:aj:=dO Tryz.f36 4
noncomputable def U2:aj:=dO Tryz.f36 5
noncomputable def aaR:aj:=dO Tryz.f36 6
noncomputable def ado:aj:=dO Tryz.f36 7
noncomputable def U3:aj:=dO Tryz.f36 8
noncomputable def aeX:aj:=dO Tryz.f36 9
noncomputable def rH:aj:=dO Tryz.f36 10
noncomputable def aaS:aj:=dO Tryz.f36 11
noncomputable def XO:aj:=dO Tryz.f36 12
noncomputable def aaT:aj:=dO Tryz.f36 13
noncomputable def yV:jF:=[(⟨#[98,105,110,97,114,121]⟩,XE),(⟨#[98,114,97,99,107,101,116,115]⟩,Qz),(⟨#[99,97,101,115,97,114]⟩,XF),(⟨#[99,97,116]⟩,aeW),(⟨#[99,111,108,108,97,116,122]⟩,UY),(⟨#[99,111,117,110,116]⟩,uF),(⟨#[100,105,103,105,116,115]⟩,XG),(⟨#[100,105,118,105,115,111,114,115]⟩,QA),(⟨#[101,117,99,108,105,100]⟩,XH),(⟨#[102,97,99,116,111,114,105,97,108]⟩,Oo),(⟨#[102,105,98,111,110,97,99,99,105]⟩,Oq),(⟨#[102,105,101,108,100,115]⟩,XI),(⟨#[104,97,110,111,105]⟩,aaP),(⟨#[104,101,97,100]⟩,adn),(⟨#[108,111,110,103,101,115,116]⟩,UZ)]
noncomputable def xq:jF:=[(⟨#[109,105,114,114,111,114]⟩,XJ),(⟨#[110,117,109,98,101,114]⟩,XK),(⟨#[112,97,115,99,97,108]⟩,XL),(⟨#[112,114,105,109,101,115]⟩,XM),(⟨#[114,97,110,103,101]⟩,aaQ),(⟨#[114,101,118,101,114,115,101]⟩,U2),(⟨#[114,111,109,97,110]⟩,aaR),(⟨#[115,111,114,116]⟩,ado),(⟨#[115,113,117,101,101,122,101]⟩,U3),(⟨#[115,117,109]⟩,aeX),(⟨#[117,110,105,113,117,101]⟩,rH),(⟨#[117,112,112,101,114]⟩,aaS),(⟨#[118,111,119,101,108,115]⟩,XO),(⟨#[119,111,114,100,115]⟩,aaT)]
noncomputable def sK:jF:=yV++xq
theorem Ot (a b:jF):gu (a++b)=gu a++gu b:=by unfold gu;rw [List.flatMap_append]
theorem Kt (l:jF):(gu l).length=l.length*2:=by
 unfold gu
 induction l with
 | nil=>rfl
 | cons x r ih=>rw [List.flatMap_cons,List.length_append,ih];simp;omega
theorem Ou (l:jF) (j:Nat) (h:j<l.length):(gu l)[j*2]?=some (.string l[j].1)∧(gu l)[j*2+1]?=some (.string l[j].2):=by
 unfold gu
 induction l generalizing j with
 | nil=>simp at h
 | cons x r ih =>
  cases j with
  | zero=>exact ⟨rfl,rfl⟩
  | succ j =>
   have:=ih j (by simpa using h)
   rw [show (j+1)*2=j*2+1+1 by omega,show j*2+1+1+1=j*2+1+1+1 from rfl,List.flatMap_cons]
   exact this
theorem XP (l:jF):∀u∈gu l,u.oneCell'=true:=by
 intro u hu
 unfold gu at hu
 obtain ⟨x,_,hx⟩:=List.mem_flatMap.1 hu
 simp at hx
 rcases hx with rfl|rfl<;>rfl
theorem XR:(Tryz.prog.info? 59).map (fun i=>(i.zero,i.size,i.bytes))=some (some (.agg #[.string ⟨#[]⟩,.string ⟨#[]⟩]),2,32):=by kernel_rfl
theorem XT (w:World):Calls Tryz.prog 35 #[] w (fun e w'=>e=.returned (.slice (some ⟨w.heap.size,0,none⟩) 15 15)∧w'=w.alloc (.cells (gu yV).toArray 59)):=by
 go_enter Tryz.func35, Tryz.ntmps35
 go_wp2_with fail
 go_ret
 refine ⟨rfl,?_⟩
 refine congrArg (fun x=>w.alloc (.cells x 59)) ?_
 kernel_rfl
theorem aaU (w:World):Calls Tryz.prog 36 #[] w (fun e w'=>e=.returned (.slice (some ⟨w.heap.size,0,none⟩) 14 14)∧w'=w.alloc (.cells (gu xq).toArray 59)):=by
 go_enter Tryz.func36, Tryz.ntmps36
 go_wp2_with fail
 go_ret
 refine ⟨rfl,?_⟩
 refine congrArg (fun x=>w.alloc (.cells x 59)) ?_
 kernel_rfl
def aaV (w:World) (e:Ending) (w':World):Prop:=∃a c,e=.returned (.slice a 29 c)∧aP w' w.heap.size 59 2 (.slice a 29 c) 29 (gu sK)∧Kept aA w w'
theorem QB (w:World):Calls Tryz.prog 20 #[] w (aaV w):=by
 obtain ⟨i0,hi0,hz0,hz1,hz2⟩:=info_parts XR
 obtain ⟨w1,hw1⟩:∃w1,w1=w.alloc (.cells (gu yV).toArray 59):=⟨_,rfl⟩
 have k1:Kept aA w w1:=by rw [hw1];exact (Kept.refl _ _).alloc _
 have r1:w1.heap[w.heap.size]?=some (.cells (gu yV).toArray 59 (0,0)):=by rw [hw1];exact ay w _
 obtain ⟨w2,hw2⟩:∃w2,w2=w1.alloc (.cells (gu xq).toArray 59):=⟨_,rfl⟩
 have k2:Kept aA w1 w2:=by rw [hw2];exact (Kept.refl _ _).alloc _
 have r2:w2.heap[w1.heap.size]?=some (.cells (gu xq).toArray 59 (0,0)):=by rw [hw2];exact ay w1 _
 have r1':w2.heap[w.heap.size]?=some (.cells (gu yV).toArray 59 (0,0)):=by rw [k2.block _ (Array.getElem?_eq_some_iff.1 r1).1 (fun h=>h)];exact r1
 have hE:(gu yV).length=30:=by rw [Kt];rfl
 have hL:(gu xq).length=28:=by rw [Kt];rfl
 have hW:aP w2 w.heap.size 59 2 (.slice (some ⟨w.heap.size,0,none⟩) 15 15) 15 (gu yV):=⟨by rw [hE],.inr ⟨w.heap.size,0,15,_,rfl,Nat.le_refl _,r1',Nat.le_refl _,by unfold maxLen;decide,by simp [hE],by (simp only [List.drop_zero];exact List.take_of_length_le (by simp [hE]))⟩⟩
 have hS:Src Tryz.prog 2 55 (.slice (some ⟨w1.heap.size,0,none⟩) 14 14) 14 (gu xq) w2 :=
  Src.ofSlice _ Tryz.underlying55 _ _ _ _ (by rw [hL]) (by have:=World.news_of_block (fr:=(0,0)) (cs:=(gu xq).toArray) r2;simpa using this) (XP xq)
 have HE:=ah (XT w);have HLt:=ah (aaU w1)
 have HW:=ah hW;have HSr:=ah hS
 rw [←hw1] at HE
 rw [←hw2] at HLt
 have hsz:=k1.size;have hsz2:=k2.size
 have K2:=ah (k1.trans k2)
 clear hw1 hw2 r1 r2 r1' k1 k2 hW hS
 go_enter Tryz.func20, Tryz.ntmps20
 go_wp2_with (first
  | (go_at_call 35;(refine HE.out.mono ?_);rintro e w' ⟨rfl,aH⟩;obtain rfl:=aH.symm)
  | (go_at_call 36;(refine HLt.out.mono ?_);rintro e w' ⟨rfl,aH⟩;obtain rfl:=aH.symm)
  | (refine dw w2 rfl (.tmp 1) (.tmp 2) 55 55 rfl w.heap.size 59 i0 (.agg #[.string ⟨#[]⟩,.string ⟨#[]⟩]) 2 32 Tryz.underlying55 hi0 hz0 hz1 hz2 rfl _ 15 (gu yV) rfl HW.out _ 14 (gu xq) rfl HSr.out (by unfold maxLen;decide) (by decide) (by omega) ?_;intro a3 c3 w3 hW3 hg3 ho3))
 have hK:Kept aA w w3:=(K2.out.grown hg3 (fun b hb=>.inr (HW.out.lt b hb).1))
 go_ret
 exact ⟨a3,c3,rfl,by rw [show gu sK=gu yV++gu xq from Ot yV xq];exact hW3,hK⟩
end Go.Proofs.YtodebjhalipefaaGreatDoor

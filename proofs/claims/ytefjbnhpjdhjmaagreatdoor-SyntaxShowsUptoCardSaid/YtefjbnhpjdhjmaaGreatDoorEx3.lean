/-  -/
import Derived.Test.YtefjbnhpjdhjmaaGreatDoorEx2
import Derived.Test.YtefjbnhpjdhjmaaGreatDoorTs5
import Derived.Deep.RegionWith
namespace Go.Proofs.YtefjbnhpjdhjmaaGreatDoor
set_option linter.all false
open Go.RowKit
set_option maxRecDepth 100000
set_option maxHeartbeats 2000000
mutual
def jB (n:Nat):aA→Nat→Nat×Bool
 | .mk _ _ _ _ kids,d=>if n+1≤4096∧d≤200 then su (n+1) kids (d+1) else (n+1,false)
def su (n:Nat):List aA→Nat→Nat×Bool
 | [],_=>(n,true)
 | p::r,d=>if (jB n p d).2=true then su (jB n p d).1 r d else ((jB n p d).1,false)
end
mutual
theorem look_size:∀(p:aA) (n d:Nat),n≤4096→
  (n+sizeT p≤4096∧d+eP p≤201→jB n p d=(n+sizeT p,true))∧(¬(n+sizeT p≤4096∧d+eP p≤201)→(jB n p d).2=false)
 | .mk k t n' nm kids,n,d,hn=>by
  rw [sizeT,eP,jB]
  by_cases h1:n+1≤4096∧d≤200
  ·obtain ⟨a,b⟩:=H8 kids (n+1) (d+1) h1.1 (by omega)
   rw [if_pos h1]
   refine ⟨fun h=>?_,fun h=>b (by omega)⟩
   rw [a (by omega)]
   exact Prod.ext (by dsimp only;omega) rfl
  ·rw [if_neg h1]
   exact ⟨fun h=>absurd h (by omega),fun _=>rfl⟩
theorem H8:∀(l:List aA) (n d:Nat),n≤4096→d≤201→
  (n+aS l≤4096∧d+iq l≤201→su n l d=(n+aS l,true))∧(¬(n+aS l≤4096∧d+iq l≤201)→(su n l d).2=false)
 | [],n,d,hn,hd=>by
  rw [su,aS,iq]
  exact ⟨fun _=>rfl,fun h=>absurd (by omega) h⟩
 | p::r,n,d,hn,hd=>by
  obtain ⟨a,b⟩:=look_size p n d hn
  rw [su,aS,iq]
  by_cases h1:n+sizeT p≤4096∧d+eP p≤201
  ·obtain ⟨x,y⟩:=H8 r (n+sizeT p) d h1.1 hd
   rw [a h1,if_pos rfl]
   refine ⟨fun h=>?_,fun h=>y (by omega)⟩
   rw [x (by omega)]
   exact Prod.ext (by dsimp only;omega) rfl
  ·rw [b h1]
   exact ⟨fun h=>absurd h (by omega),fun _=>rfl⟩
end
theorem Kq (p:aA):(jB 0 p 1).2=decide (fits p):=by
 obtain ⟨a,b⟩:=look_size p 0 1 (by omega)
 by_cases h:fits p
 ·have h':=h;unfold fits at h'
  rw [a (by omega),ak h]
 ·have h':=h;unfold fits at h'
  rw [b (by omega),au h]
theorem aat (p:aA) (n d:Nat) (hn:n≤4096) (h:(jB n p d).2=true):(jB n p d).1≤4096:=by
 obtain ⟨a,b⟩:=look_size p n d hn
 by_cases h1:n+sizeT p≤4096∧d+eP p≤201
 ·rw [a h1];exact h1.1
 ·rw [b h1] at h;cases h
theorem Rq (l:List aA) (n d j:Nat) (h:j<l.length):su n (l.drop j) d=if (jB n l[j] d).2=true then su (jB n l[j] d).1 (l.drop (j+1)) d else ((jB n l[j] d).1,false):=by
 rw [List.drop_eq_getElem_cons h,su]
def Nh (b:Bool):Int:=if b=true then 0 else 4
def Nj (c1:Nat) (r:Nat×Bool) (w:World) (e:Ending) (w':World):Prop :=
 e=.returned (.int .i64 (Nh r.2))∧gG w' c1 3 (.int .i64 r.1)∧Kept (· = c1) w w'
def E8 (c1 c2:Nat):Value:=.func (.func 59) #[] #[.pointer (some ⟨c1,0,none⟩),.pointer (some ⟨c2,0,none⟩)]
theorem XG (c1 c2:Nat) (T:TypeId) (hne:c2≠c1) (S:Nat→Prop):∀(m:Nat) (p:aA) (n b o d:Nat) (w:World),sizeT p≤m→n≤4096→d≤201→
  gG w c1 3 (.int .i64 n)→gG w c2 T (E8 c1 c2)→dH w S b o p→Safe S (· = c1) w.heap.size→
  Calls Tryz.prog 59 #[.pointer (some ⟨b,o,none⟩),.int .i64 d,.pointer (some ⟨c1,0,none⟩),.pointer (some ⟨c2,0,none⟩)] w (Nj c1 (jB n p d) w):=by
 intro m
 induction m with
 | zero=>intro p n b o d w hm;have:=lW p;omega
 | succ m ih =>
 intro p n b o d w hm hn hd h1 h2 hp hS
 obtain ⟨k,t,n',nm,kids⟩:=p
 have hc1:=h1.cell
 have hf1:=h1.free
 have kA:Kept (· = c1) w (w.setCell ⟨c1,0,none⟩ (.int .i64 ((n:Int)+1))):=(Kept.refl (· = c1) w).setCell (.inl rfl) _
 obtain ⟨w1,hw1⟩:∃w1,w1=w.setCell ⟨c1,0,none⟩ (.int .i64 ((n:Int)+1)):=⟨_,rfl⟩
 have C1:Hid (gG w1 c1 3 (.int .i64 ((n+1:Nat):Int))):=by rw [hw1];exact h1.set _
 rw [←hw1] at kA
 have HW1:=ah hw1;clear hw1
 by_cases h4:4096<n+1
 ·have hr:Hid (jB n (.mk k t n' nm kids) d=(n+1,false)):=by unfold Hid;rw [jB,if_neg (by omega)]
  have hc2:=C1.out.cell
  go_enter Tryz.func59, Tryz.ntmps59
  go_upto_region 2 with fail
  rw [←HW1.out]
  go_wp2_with fail
  go_ret
  exact ⟨by rw [hr.out];rfl,by rw [hr.out];exact C1.out,kA⟩
 by_cases h5:200<d
 ·have hr:Hid (jB n (.mk k t n' nm kids) d=(n+1,false)):=by unfold Hid;rw [jB,if_neg (by omega)]
  have hc2:=C1.out.cell
  have hb:decide ((4096:Int)<((n+1:Nat):Int))=false:=au (by omega)
  go_enter Tryz.func59, Tryz.ntmps59
  go_upto_region 2 with fail
  rw [←HW1.out]
  go_wp2_with fail
  go_ret
  exact ⟨by rw [hr.out];rfl,by rw [hr.out];exact C1.out,kA⟩
 have hr:Hid (jB n (.mk k t n' nm kids) d=su (n+1) kids (d+1)):=by unfold Hid;rw [jB,if_pos (by omega)]
 have hc2:=C1.out.cell
 have hb:decide ((4096:Int)<((n+1:Nat):Int))=false:=au (by omega)
 have hsz:∀j (hj:j<kids.length),sizeT kids[j]≤m:=by intro j hj;have h:=ng kids j hj;simp only [sizeT] at hm;omega
 have HP:=ah hp
 have C2:=ah h2
 have hpk:=hp.kept kA hS
 unfold dH at hpk
 obtain ⟨_,⟨_,_,hkl⟩,_,_,_,_,ka,cap,q4,_⟩:=hpk
 have KA:=ah kA;have HS:=ah hS
 clear hp hm kA h1 h2 hS
 go_enter Tryz.func59, Tryz.ntmps59
 go_upto_region 2 with fail
 rw [←HW1.out]
 clear hc1 hf1
 go_wp2_with fail
 go_loopw [22] (fun i wr=>∃(j n2:Nat),j≤kids.length∧i=.int .i64 j∧n2≤4096∧Hid (jB n (.mk k t n' nm kids) d=su n2 (kids.drop j) (d+1))∧gG wr c1 3 (.int .i64 n2)∧Kept (· = c1) w wr) (fun i _=>kids.length-(intOf i).toNat)
 case atStart=>exact ⟨0,n+1,Nat.zero_le _,rfl,by omega,by unfold Hid;rw [hr.out,List.drop_zero],C1.out,KA.out⟩
 case round =>
  obtain ⟨j,n2,hj,rfl,hn2,hno,hcc,hkw⟩:=hrel
  have CC:=ah hcc;have KW:=ah hkw
  by_cases hlt:j<kids.length
  ·have hpk:=HP.out.kept hkw HS.out
   unfold dH at hpk
   obtain ⟨_,_,_,_,_,_,Zz,cap',q5,hks⟩:=hpk
   obtain ⟨b1,o1,rfl⟩:=iF hks (by omega)
   have hP:=ah ((iH kids b1 o1 j hlt hks).kept (Kept.refl (· = c1) _).drew (HS.out.mono hkw.size))
   have e2:=(C2.out.kept hkw hne).cell
   unfold E8 at e2
   have hS2:Hid (Safe S (· = c1) wr.drew.heap.size):=HS.out.mono hkw.size
   have Gt:=hsz j hlt
   have hdr:=ah (Rq kids n2 (d+1) j hlt)
   have hwr:IntKind.i64.wrap ((d:Int)+1)=(d:Int)+1:=IntWalk.i64_in _ (by omega)
   clear hks hcc hkw
   go_upto_region 7 with fail
   go_cut [8] (fun r wx=>Nj c1 (jB n2 kids[j] (d+1)) wr (.returned r) wx)
   case first =>
    go_region_with (go_at_call 59;rw [show (d:Int)+1=((d+1:Nat):Int) from rfl];(with_reducible refine (ih kids[j] n2 b1 (o1+j*5) (d+1) _ Gt hn2 (by omega) CC.out.drew (C2.out.kept KW.out hne).drew hP.out hS2.out).mono ?_);rintro e w2 ⟨rfl,x_,y_⟩;have X2:=ah x_;have Y2:=ah y_;clear x_ y_)
    all_goals (go_wp2_with fail;go_meet;exact ⟨rfl,X2.out,(Kept.refl (· = c1) wr).drew.trans Y2.out⟩)
   case rest =>
    obtain ⟨hr0,hx2,hy2⟩:=hcut
    have X2:=ah hx2;have Y2:=ah hy2
    simp only [Ending.returned.injEq] at hr0
    subst hr0
    clear hx2 hy2
    by_cases hz:(jB n2 kids[j] (d+1)).2=true
    ·have hle:=aat kids[j] n2 (d+1) hn2 hz
     have hd2:=hdr.out
     rw [if_pos hz] at hd2
     have step:=ah (hno.out.trans hd2)
     have hbb:(Nh (jB n2 kids[j] (d+1)).2 != 0)=false:=by rw [hz];rfl
     clear hd2 hz
     go_wp2_with fail
     go_roundw
     case rel=>exact ⟨j+1,_,by omega,by go_num,hle,step,X2.out,KW.out.trans Y2.out⟩
     case measure=>simp [intOf];omega
    ·have hz':(jB n2 kids[j] (d+1)).2=false:=by simpa using hz
     have hd2:=hdr.out
     rw [if_neg hz] at hd2
     have fin:=ah (hno.out.trans hd2)
     have hbb:(Nh (jB n2 kids[j] (d+1)).2 != 0)=true:=by rw [hz'];rfl
     have HZ:=ah hz'
     clear hd2 hz hz'
     go_wp2_with fail
     go_ret
     exact ⟨by rw [fin.out,HZ.out];try rfl,by rw [fin.out];exact X2.out,KW.out.trans Y2.out⟩
  ·obtain rfl:j=kids.length:=by omega
   have fin:Hid (jB n (.mk k t n' nm kids) d=(n2,true)):=by unfold Hid;rw [hno.out,List.drop_length,su]
   go_wp2_with fail
   go_ret
   exact ⟨by rw [fin.out];try rfl,by rw [fin.out];exact CC.out,KW.out⟩
theorem XH {p:aA} (h:(jB 0 p 1).2=true):bC p=kX p:=by
 rw [Kq,decide_eq_true_eq] at h
 unfold bC;rw [if_pos h]
theorem XI {p:aA} (h:(jB 0 p 1).2=false):bC p=4:=by
 rw [Kq,decide_eq_false_iff_not] at h
 unfold bC;rw [if_neg h]
theorem sN (p:aA) (v:Value) (S:Nat→Prop) (w:World) (hp:gV w S v p) (hS:Safe S aC w.heap.size) (hsz:sizeT p≤100000000):Calls Tryz.prog 27 #[v] w (XJ (bC p) w):=by
 obtain ⟨c,hv,hb⟩:=hp.box 24 (fun b hb=>(hS b hb).1)
 obtain ⟨ka,cap,rfl,hz,hk⟩:=hp
 simp only [Value.agg.injEq] at hv;subst hv
 have hmf:∀(fn:Fn) (first cap:Array Value) (w:World),(Instr.makeFunc fn first cap).run Tryz.prog w=.ok (.func fn first cap) w:=fun _ _ _ _=>rfl
 have hst:∀(a:Addr) (fn:Fn) (first cap:Array Value) (m:Mode) (w:World),(store a (.func fn first cap) m).run Tryz.prog w=stored Tryz.prog w a (.func fn first cap) m:=fun _ _ _ _ _ _=>run_store _ _ _ _ _ rfl
 obtain ⟨w1,hw1⟩:∃w1,w1=(w.alloc (.cells #[.int .i64 p.kind,.string p.text,.int .i64 p.n,.string p.name,.slice ka p.kids.length cap] 24)):=⟨_,rfl⟩
 rw [←hw1] at hb
 have hs1:w1.heap.size=w.heap.size+1:=by rw [hw1];simp
 obtain ⟨w3,hw3⟩:∃w3,w3=(w1.alloc (.cells #[.int .i64 0] 3)).alloc (.cells #[E8 (w.heap.size+1) (w.heap.size+1+1)] 105):=⟨_,rfl⟩
 have k1:Kept aC w w1:=by rw [hw1];exact (Kept.refl aC _).alloc _
 have k3:Kept aC w1 w3:=by rw [hw3];exact ((Kept.refl aC _).alloc _).alloc _
 have B3:Hid (dH w3 (fun b=>S b∨b=w.heap.size) w.heap.size 0 p):=hb.kept k3 (fun b hb=>⟨by rcases hb with hb|rfl;(have:=(hS b hb).1;omega);omega,fun h=>h⟩)
 have C1:Hid (gG w3 (w.heap.size+1) 3 (.int .i64 (0:Nat))):=by rw [hw3,←hs1];exact (gG.new _ _ _).alloc _
 have C2:Hid (gG w3 (w.heap.size+1+1) 105 (E8 (w.heap.size+1) (w.heap.size+1+1))):=by rw [hw3];exact gG.new' (by simp [hs1])
 have hs3:=k3.size
 have SF:Hid (Safe (fun b=>S b∨b=w.heap.size) (· = w.heap.size+1) w3.heap.size):=by
  have h3:w3.heap.size=w.heap.size+3:=by rw [hw3];simp [hs1]
  intro b hb
  rcases hb with hb|rfl
  ·have:=(hS b hb).1;exact ⟨by omega,by omega⟩
  ·exact ⟨by omega,by omega⟩
 have Bj:=ah (k1.trans k3)
 unfold E8 at hw3
 have HW1:=ah hw1;have HW3:=ah hw3
 clear hb hk hz hw1 hw3 k1 k3 hs3
 go_enter Tryz.func27, Tryz.ntmps27
 go_upto_region 4 with fail
 rw [←HW1.out,←HW3.out]
 have e2:=C2.out.cell
 unfold E8 at e2
 go_wp2_with fail
 refine (XG (w.heap.size+1) (w.heap.size+1+1) _ (by omega) (fun b=>S b∨b=w.heap.size) 100000000 p 0 w.heap.size 0 1 w3 hsz (by omega) (by omega) C1.out C2.out B3.out SF.out).mono ?_
 rintro e w4 ⟨rfl,X4,Y4⟩
 have KK4:Hid (Kept aC w w4):=Bj.out.step Y4 (fun y hy=>.inr (by subst hy;omega))
 have B4:=ah (B3.out.kept Y4 SF.out)
 clear X4 Y4 e2
 cases hr:(jB 0 p 1).2 with
 | false =>
  have fin:=ah (XI hr)
  have hb:(Nh false != 0)=true:=rfl
  clear hr
  go_wp2_with fail
  go_ret
  exact ⟨by rw [fin.out];try rfl,KK4.out⟩
 | true =>
  have fin:=ah (XH hr)
  have hb:(Nh true != 0)=false:=rfl
  clear hr
  go_wp2_with fail
  refine (Ux 100000000 p _ _ _ _ hsz B4.out).mono ?_
  rintro e w5 ⟨rfl,rfl⟩
  go_wp2_with fail
  go_ret
  exact ⟨by rw [fin.out];try rfl,KK4.out⟩
end Go.Proofs.YtefjbnhpjdhjmaaGreatDoor

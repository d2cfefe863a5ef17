/-  -/
import Derived.Test.YtodebjhalipefaaGreatDoorLq9
import Derived.Test.YtodebjhalipefaaGreatDoorLq11
import Derived.Deep.RegionWith
namespace Go.Proofs.YtodebjhalipefaaGreatDoor
set_option linter.all false
open Go.RowKit
set_option maxRecDepth 100000
set_option maxHeartbeats 2000000
mutual
def gy (n:Nat):aB→Nat→Nat×Bool
 | .mk _ _ _ _ kids,d=>if n+1≤4096∧d≤200 then oI (n+1) kids (d+1) else (n+1,false)
def oI (n:Nat):List aB→Nat→Nat×Bool
 | [],_=>(n,true)
 | p::r,d=>if (gy n p d).2=true then oI (gy n p d).1 r d else ((gy n p d).1,false)
end
mutual
theorem look_size:∀(p:aB) (n d:Nat),n≤4096→
  (n+sizeT p≤4096∧d+wV p≤201→gy n p d=(n+sizeT p,true))∧(¬(n+sizeT p≤4096∧d+wV p≤201)→(gy n p d).2=false)
 | .mk k t n' nm kids,n,d,hn=>by
  rw [sizeT,wV,gy]
  by_cases h1:n+1≤4096∧d≤200
  ·obtain ⟨a,b⟩:=Gl kids (n+1) (d+1) h1.1 (by omega)
   rw [if_pos h1]
   refine ⟨fun h=>?_,fun h=>b (by omega)⟩
   rw [a (by omega)]
   exact Prod.ext (by dsimp only;omega) rfl
  ·rw [if_neg h1]
   exact ⟨fun h=>absurd h (by omega),fun _=>rfl⟩
theorem Gl:∀(l:List aB) (n d:Nat),n≤4096→d≤201→
  (n+bK l≤4096∧d+zo l≤201→oI n l d=(n+bK l,true))∧(¬(n+bK l≤4096∧d+zo l≤201)→(oI n l d).2=false)
 | [],n,d,hn,hd=>by
  rw [oI,bK,zo]
  exact ⟨fun _=>rfl,fun h=>absurd (by omega) h⟩
 | p::r,n,d,hn,hd=>by
  obtain ⟨a,b⟩:=look_size p n d hn
  rw [oI,bK,zo]
  by_cases h1:n+sizeT p≤4096∧d+wV p≤201
  ·obtain ⟨x,y⟩:=Gl r (n+sizeT p) d h1.1 hd
   rw [a h1,if_pos rfl]
   refine ⟨fun h=>?_,fun h=>y (by omega)⟩
   rw [x (by omega)]
   exact Prod.ext (by dsimp only;omega) rfl
  ·rw [b h1]
   exact ⟨fun h=>absurd h (by omega),fun _=>rfl⟩
end
theorem JM (p:aB):(gy 0 p 1).2=decide (fits p):=by
 obtain ⟨a,b⟩:=look_size p 0 1 (by omega)
 by_cases h:fits p
 ·have h':=h;unfold fits at h'
  rw [a (by omega),ak h]
 ·have h':=h;unfold fits at h'
  rw [b (by omega),au h]
theorem acS (p:aB) (n d:Nat) (hn:n≤4096) (h:(gy n p d).2=true):(gy n p d).1≤4096:=by
 obtain ⟨a,b⟩:=look_size p n d hn
 by_cases h1:n+sizeT p≤4096∧d+wV p≤201
 ·rw [a h1];exact h1.1
 ·rw [b h1] at h;cases h
theorem TM (l:List aB) (n d j:Nat) (h:j<l.length):oI n (l.drop j) d=if (gy n l[j] d).2=true then oI (gy n l[j] d).1 (l.drop (j+1)) d else ((gy n l[j] d).1,false):=by
 rw [List.drop_eq_getElem_cons h,oI]
def MR (b:Bool):Int:=if b=true then 0 else 4
def MS (c1:Nat) (r:Nat×Bool) (w:World) (e:Ending) (w':World):Prop :=
 e=.returned (.int .i64 (MR r.2))∧dH w' c1 3 (.int .i64 r.1)∧Kept (· = c1) w w'
def D6 (c1 c2:Nat):Value:=.func (.func 146) #[] #[.pointer (some ⟨c1,0,none⟩),.pointer (some ⟨c2,0,none⟩)]
theorem ZI (c1 c2:Nat) (T:TypeId) (hne:c2≠c1) (S:Nat→Prop):∀(m:Nat) (p:aB) (n b o d:Nat) (w:World),sizeT p≤m→n≤4096→d≤201→
  dH w c1 3 (.int .i64 n)→dH w c2 T (D6 c1 c2)→aU w S b o p→Safe S (· = c1) w.heap.size→
  Calls Tryz.prog 146 #[.pointer (some ⟨b,o,none⟩),.int .i64 d,.pointer (some ⟨c1,0,none⟩),.pointer (some ⟨c2,0,none⟩)] w (MS c1 (gy n p d) w):=by
 intro m
 induction m with
 | zero=>intro p n b o d w hm;have:=BM p;omega
 | succ m ih =>
 intro p n b o d w hm hn hd h1 h2 hp hS
 obtain ⟨k,t,n',nm,kids⟩:=p
 have hc1:=h1.cell
 have hf1:=h1.free
 have kA:Kept (· = c1) w (w.setCell ⟨c1,0,none⟩ (.int .i64 ((n:Int)+1))):=(Kept.refl (· = c1) w).setCell (.inl rfl) _
 obtain ⟨w1,hw1⟩:∃w1,w1=w.setCell ⟨c1,0,none⟩ (.int .i64 ((n:Int)+1)):=⟨_,rfl⟩
 have C1:Hid (dH w1 c1 3 (.int .i64 ((n+1:Nat):Int))):=by rw [hw1];exact h1.set _
 rw [←hw1] at kA
 have HW1:=ah hw1;clear hw1
 by_cases h4:4096<n+1
 ·have hr:Hid (gy n (.mk k t n' nm kids) d=(n+1,false)):=by unfold Hid;rw [gy,if_neg (by omega)]
  have hc2:=C1.out.cell
  go_enter Tryz.func146, Tryz.ntmps146
  go_upto_region 2 with fail
  rw [←HW1.out]
  go_wp2_with fail
  go_ret
  exact ⟨by rw [hr.out];rfl,by rw [hr.out];exact C1.out,kA⟩
 by_cases h5:200<d
 ·have hr:Hid (gy n (.mk k t n' nm kids) d=(n+1,false)):=by unfold Hid;rw [gy,if_neg (by omega)]
  have hc2:=C1.out.cell
  have hb:decide ((4096:Int)<((n+1:Nat):Int))=false:=au (by omega)
  go_enter Tryz.func146, Tryz.ntmps146
  go_upto_region 2 with fail
  rw [←HW1.out]
  go_wp2_with fail
  go_ret
  exact ⟨by rw [hr.out];rfl,by rw [hr.out];exact C1.out,kA⟩
 have hr:Hid (gy n (.mk k t n' nm kids) d=oI (n+1) kids (d+1)):=by unfold Hid;rw [gy,if_pos (by omega)]
 have hc2:=C1.out.cell
 have hb:decide ((4096:Int)<((n+1:Nat):Int))=false:=au (by omega)
 have hsz:∀j (hj:j<kids.length),sizeT kids[j]≤m:=by intro j hj;have h:=oQ kids j hj;simp only [sizeT] at hm;omega
 have HP:=ah hp
 have C2:=ah h2
 have hpk:=hp.kept kA hS
 unfold aU at hpk
 obtain ⟨_,⟨_,_,hkl⟩,_,_,_,_,ka,cap,q4,_⟩:=hpk
 have KA:=ah kA;have HS:=ah hS
 clear hp hm kA h1 h2 hS
 go_enter Tryz.func146, Tryz.ntmps146
 go_upto_region 2 with fail
 rw [←HW1.out]
 clear hc1 hf1
 go_wp2_with fail
 go_loopw [22] (fun i wr=>∃(j n2:Nat),j≤kids.length∧i=.int .i64 j∧n2≤4096∧Hid (gy n (.mk k t n' nm kids) d=oI n2 (kids.drop j) (d+1))∧dH wr c1 3 (.int .i64 n2)∧Kept (· = c1) w wr) (fun i _=>kids.length-(intOf i).toNat)
 case atStart=>exact ⟨0,n+1,Nat.zero_le _,rfl,by omega,by unfold Hid;rw [hr.out,List.drop_zero],C1.out,KA.out⟩
 case round =>
  obtain ⟨j,n2,hj,rfl,hn2,hno,hcc,hkw⟩:=hrel
  have CC:=ah hcc;have KW:=ah hkw
  by_cases hlt:j<kids.length
  ·have hpk:=HP.out.kept hkw HS.out
   unfold aU at hpk
   obtain ⟨_,_,_,_,_,_,ka',cap',q5,hks⟩:=hpk
   obtain ⟨b1,o1,rfl⟩:=oh hks (by omega)
   have hP:=ah ((mV kids b1 o1 j hlt hks).kept (Kept.refl (· = c1) _).drew (HS.out.mono hkw.size))
   have e2:=(C2.out.kept hkw hne).cell
   unfold D6 at e2
   have hS2:Hid (Safe S (· = c1) wr.drew.heap.size):=HS.out.mono hkw.size
   have ZJ:=hsz j hlt
   have hdr:=ah (TM kids n2 (d+1) j hlt)
   have hwr:IntKind.i64.wrap ((d:Int)+1)=(d:Int)+1:=IntWalk.i64_in _ (by omega)
   clear hks hcc hkw
   go_upto_region 7 with fail
   go_cut [8] (fun r wx=>MS c1 (gy n2 kids[j] (d+1)) wr (.returned r) wx)
   case first =>
    go_region_with (go_at_call 146;rw [show (d:Int)+1=((d+1:Nat):Int) from rfl];(with_reducible refine (ih kids[j] n2 b1 (o1+j*5) (d+1) _ ZJ hn2 (by omega) CC.out.drew (C2.out.kept KW.out hne).drew hP.out hS2.out).mono ?_);rintro e w2 ⟨rfl,x_,y_⟩;have X2:=ah x_;have Y2:=ah y_;clear x_ y_)
    all_goals (go_wp2_with fail;go_meet;exact ⟨rfl,X2.out,(Kept.refl (· = c1) wr).drew.trans Y2.out⟩)
   case rest =>
    obtain ⟨hr0,hx2,hy2⟩:=hcut
    have X2:=ah hx2;have Y2:=ah hy2
    simp only [Ending.returned.injEq] at hr0
    subst hr0
    clear hx2 hy2
    by_cases hz:(gy n2 kids[j] (d+1)).2=true
    ·have hle:=acS kids[j] n2 (d+1) hn2 hz
     have hd2:=hdr.out
     rw [if_pos hz] at hd2
     have step:=ah (hno.out.trans hd2)
     have hbb:(MR (gy n2 kids[j] (d+1)).2 != 0)=false:=by rw [hz];rfl
     clear hd2 hz
     go_wp2_with fail
     go_roundw
     case rel=>exact ⟨j+1,_,by omega,by go_num,hle,step,X2.out,KW.out.trans Y2.out⟩
     case measure=>simp [intOf];omega
    ·have hz':(gy n2 kids[j] (d+1)).2=false:=by simpa using hz
     have hd2:=hdr.out
     rw [if_neg hz] at hd2
     have fin:=ah (hno.out.trans hd2)
     have hbb:(MR (gy n2 kids[j] (d+1)).2 != 0)=true:=by rw [hz'];rfl
     have HZ:=ah hz'
     clear hd2 hz hz'
     go_wp2_with fail
     go_ret
     exact ⟨by rw [fin.out,HZ.out];try rfl,by rw [fin.out];exact X2.out,KW.out.trans Y2.out⟩
  ·obtain rfl:j=kids.length:=by omega
   have fin:Hid (gy n (.mk k t n' nm kids) d=(n2,true)):=by unfold Hid;rw [hno.out,List.drop_length,oI]
   go_wp2_with fail
   go_ret
   exact ⟨by rw [fin.out];try rfl,by rw [fin.out];exact CC.out,KW.out⟩
theorem ZK {p:aB} (h:(gy 0 p 1).2=true):aV p=jy p:=by
 rw [JM,decide_eq_true_eq] at h
 unfold aV;rw [if_pos h]
theorem ZL {p:aB} (h:(gy 0 p 1).2=false):aV p=4:=by
 rw [JM,decide_eq_false_iff_not] at h
 unfold aV;rw [if_neg h]
theorem oV (p:aB) (v:Value) (S:Nat→Prop) (w:World) (hp:ou w S v p) (hS:Safe S aA w.heap.size) (hsz:sizeT p≤100000000):Calls Tryz.prog 109 #[v] w (ZM (aV p) w):=by
 obtain ⟨c,hv,hb⟩:=hp.box 64 (fun b hb=>(hS b hb).1)
 obtain ⟨ka,cap,rfl,hz,hk⟩:=hp
 simp only [Value.agg.injEq] at hv;subst hv
 have hmf:∀(fn:Fn) (first cap:Array Value) (w:World),(Instr.makeFunc fn first cap).run Tryz.prog w=.ok (.func fn first cap) w:=fun _ _ _ _=>rfl
 have hst:∀(a:Addr) (fn:Fn) (first cap:Array Value) (m:Mode) (w:World),(store a (.func fn first cap) m).run Tryz.prog w=stored Tryz.prog w a (.func fn first cap) m:=fun _ _ _ _ _ _=>run_store _ _ _ _ _ rfl
 obtain ⟨w1,hw1⟩:∃w1,w1=(w.alloc (.cells #[.int .i64 p.kind,.string p.text,.int .i64 p.n,.string p.name,.slice ka p.kids.length cap] 64)):=⟨_,rfl⟩
 rw [←hw1] at hb
 have hs1:w1.heap.size=w.heap.size+1:=by rw [hw1];simp
 obtain ⟨w3,hw3⟩:∃w3,w3=(w1.alloc (.cells #[.int .i64 0] 3)).alloc (.cells #[D6 (w.heap.size+1) (w.heap.size+1+1)] 228):=⟨_,rfl⟩
 have k1:Kept aA w w1:=by rw [hw1];exact (Kept.refl aA _).alloc _
 have k3:Kept aA w1 w3:=by rw [hw3];exact ((Kept.refl aA _).alloc _).alloc _
 have B3:Hid (aU w3 (fun b=>S b∨b=w.heap.size) w.heap.size 0 p):=hb.kept k3 (fun b hb=>⟨by rcases hb with hb|rfl;(have:=(hS b hb).1;omega);omega,fun h=>h⟩)
 have C1:Hid (dH w3 (w.heap.size+1) 3 (.int .i64 (0:Nat))):=by rw [hw3,←hs1];exact (dH.new _ _ _).alloc _
 have C2:Hid (dH w3 (w.heap.size+1+1) 228 (D6 (w.heap.size+1) (w.heap.size+1+1))):=by rw [hw3];exact dH.new' (by simp [hs1])
 have hs3:=k3.size
 have SF:Hid (Safe (fun b=>S b∨b=w.heap.size) (· = w.heap.size+1) w3.heap.size):=by
  have h3:w3.heap.size=w.heap.size+3:=by rw [hw3];simp [hs1]
  intro b hb
  rcases hb with hb|rfl
  ·have:=(hS b hb).1;exact ⟨by omega,by omega⟩
  ·exact ⟨by omega,by omega⟩
 have KK3:=ah (k1.trans k3)
 unfold D6 at hw3
 have HW1:=ah hw1;have HW3:=ah hw3
 clear hb hk hz hw1 hw3 k1 k3 hs3
 go_enter Tryz.func109, Tryz.ntmps109
 go_upto_region 4 with fail
 rw [←HW1.out,←HW3.out]
 have e2:=C2.out.cell
 unfold D6 at e2
 go_wp2_with fail
 refine (ZI (w.heap.size+1) (w.heap.size+1+1) _ (by omega) (fun b=>S b∨b=w.heap.size) 100000000 p 0 w.heap.size 0 1 w3 hsz (by omega) (by omega) C1.out C2.out B3.out SF.out).mono ?_
 rintro e w4 ⟨rfl,X4,Y4⟩
 have KK4:Hid (Kept aA w w4):=KK3.out.step Y4 (fun y hy=>.inr (by subst hy;omega))
 have B4:=ah (B3.out.kept Y4 SF.out)
 clear X4 Y4 e2
 cases hr:(gy 0 p 1).2 with
 | false =>
  have fin:=ah (ZL hr)
  have hb:(MR false != 0)=true:=rfl
  clear hr
  go_wp2_with fail
  go_ret
  exact ⟨by rw [fin.out];try rfl,KK4.out⟩
 | true =>
  have fin:=ah (ZK hr)
  have hb:(MR true != 0)=false:=rfl
  clear hr
  go_wp2_with fail
  refine (V4 100000000 p _ _ _ _ hsz B4.out).mono ?_
  rintro e w5 ⟨rfl,rfl⟩
  go_wp2_with fail
  go_ret
  exact ⟨by rw [fin.out];try rfl,KK4.out⟩
end Go.Proofs.YtodebjhalipefaaGreatDoor

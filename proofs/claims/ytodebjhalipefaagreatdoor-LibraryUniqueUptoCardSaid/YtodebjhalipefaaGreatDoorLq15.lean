/-  -/
import Derived.Test.YtodebjhalipefaaGreatDoorLrSh
import Derived.Test.YtodebjhalipefaaGreatDoorLq22
import Derived.Test.YtodebjhalipefaaGreatDoorLq26
import Derived.Shelf.Strconv.Itoa4
import Derived.Test.YtodebjhalipefaaGreatDoorLq11
import Derived.Laws.IdiomStrings
namespace Go.Proofs.YtodebjhalipefaaGreatDoor
set_option linter.all false
open Go.RowKit
set_option maxRecDepth 100000
set_option maxHeartbeats 2000000
theorem NQ:Tryz.prog.globalNamed "internal/strconv.uint64pow10" = some 3:=by kernel_rfl
def jq (w:World):Prop:=Ac w∧3<w.heap.size∧Lib.TabIs Tryz.prog w "internal/strconv.uint64pow10" .u64 Lib.pow10Tab
theorem jq.kept {w w':World} {X:Nat→Prop} (h:jq w) (hk:Kept X w w') (h1:¬X 5) (h2:¬X 3):jq w':=by
 refine ⟨h.1.kept hk h1,Nat.lt_of_lt_of_le h.2.1 hk.size,?_⟩
 have ht:=h.2.2
 unfold Lib.TabIs World.var? at ht⊢
 simp only [NQ,Option.bind_some] at ht⊢
 rw [hk.block _ h.2.1 h2]
 exact ht
theorem jq.gk (w:World) (h0:jq w):∀N wa wb,w.heap.size≤N→Kept (fun b=>N≤b) wa wb→jq wa→jq wb:=fun N wa wb hN hk h =>
 h.kept hk (by have:=h0.1.1;show ¬N≤_;omega) (by have:=h0.2.1;show ¬N≤_;omega)
theorem ac8 (n:Int) (w:World) (hg:jq w) (hz:eH n):Calls Tryz.prog 210 #[.int .i64 n,.int .i64 10] w (fun e w'=>e=.returned (.string (bY n))∧Kept aA w w'):=by
 refine (Tryz.strconv_FormatInt_10 n hz.1 hz.2 w hg.2.2).mono ?_
 rintro e w' ⟨rfl,k,os,rfl⟩
 refine ⟨rfl,rfl,rfl,rfl,?_,fun j hj _=>?_⟩
 ·show w.heap.size≤(w.heap++os).size;simp
 ·show (w.heap++os)[j]?=_;rw [Array.getElem?_append_left hj]
theorem Ue (n:Int) (w:World) (hg:jq w) (hz:eH n):Calls Tryz.prog 152 #[.int .i64 n] w (fun e w'=>e=.returned (.string (bY n))∧Kept aA w w'):=by
 have H:=ah (ac8 n w hg hz)
 clear hg hz
 go_enter Tryz.func152, Tryz.ntmps152
 go_wp2_with (go_at_call 210;(with_reducible refine H.out.mono ?_);rintro e w2 ⟨rfl,hk⟩;have K:=ah hk;clear hk)
 go_ret
 exact ⟨rfl,K.out⟩
theorem told_none (n k:Int) (hk:k≠0) (w:World):Calls Tryz.prog 114 #[.int .i64 n,.int .i64 k] w (wX none w):=by
 have e:decide (k=0)=false:=au hk
 have H:=ah (Fq k w)
 rw [e] at H
 clear e hk
 go_enter Tryz.func114, Tryz.ntmps114
 go_wp2_with (go_at_call 120;(with_reducible refine H.out.mono ?_);rintro e w2 ⟨rfl,hw2⟩;subst hw2)
 go_ret2
 exact ⟨rfl,Kept.refl _ _⟩
theorem Fv (n:Int) (w:World) (hg:jq w) (hz:eH n):Calls Tryz.prog 114 #[.int .i64 n,.int .i64 0] w (wX (some (bY n)) w):=by
 have H:=ah (Fq 0 w)
 have HP:=ah (Ue n w hg hz)
 have e:decide ((0:Int)=0)=true:=rfl
 rw [e] at H
 clear e hg hz
 go_enter Tryz.func114, Tryz.ntmps114
 go_wp2_with first
  | (go_at_call 120;(with_reducible refine H.out.mono ?_);rintro e w2 ⟨rfl,hw2⟩;subst hw2)
  | (go_at_call 152;(with_reducible refine HP.out.mono ?_);rintro e w3 ⟨rfl,hk⟩;have K:=ah hk;clear hk)
 go_ret2
 exact ⟨rfl,K.out⟩
theorem args2 {w:World} {al:Option Addr} {l:List aj} (hs:aX w (· < w.heap.size) al l) (h1:l.length=2):∃t u b o,l=[t,u]∧al=some ⟨b,o,none⟩∧w.cell? ⟨b,o,none⟩=some (.string t)∧w.cell? ⟨b,o+1,none⟩=some (.string u):=by
 match l,h1 with
 | [t,u],_ =>
  obtain ⟨b,o,rfl,_,hc⟩:=hs (by simp)
  exact ⟨t,u,b,o,rfl,rfl,by have:=hc 0 (by simp);simpa using this,by have:=hc 1 (by simp);simpa using this⟩
def sQ:aj:=⟨#[73,68,69,78,84]⟩
theorem RH (t u:aj):gK sQ [t,u]=uz (decide (t=u)):=by
 unfold gK
 dsimp only
 rw [if_neg (by decide +kernel),if_neg (by decide +kernel),if_neg (by decide +kernel),if_neg (by decide +kernel),if_pos (by decide +kernel)];rfl
theorem LD (l:List aj) (al:Option Addr) (cl:Nat) (w:World) (hs:aX w (· < w.heap.size) al l) (h1:l.length=2) :
  Calls Tryz.prog 116 #[.string sQ,.slice al l.length cl] w (wX (gK sQ l) w):=by
 obtain ⟨t,u,b,o,rfl,rfl,c0,c1⟩:=args2 hs h1
 have FIN:=ah (RH t u)
 clear hs h1
 show Calls Tryz.prog 116 #[.string ⟨#[73,68,69,78,84]⟩,.slice (some ⟨b,o,none⟩) 2 cl] w _
 by_cases h:t=u
 ·have e:(t.toList==u.toList)=true:=by rw [h];simp
  have aar:Hid (gK sQ [t,u]=some ⟨#[]⟩):=by unfold Hid;rw [FIN.out,ak h];rfl
  clear h
  go_enter Tryz.func116, Tryz.ntmps116
  go_wp2_with (go_region_with fail)
  all_goals
   go_ret2
   exact ⟨by rw [aar.out];rfl,by repeat (first|exact Kept.refl aA _|refine Kept.drew ?_|refine Kept.drewN ?_ _)⟩
 ·have e:(t.toList==u.toList)=false:=by
   rw [beq_eq_false_iff_ne,ByteArray.toList_eq,ByteArray.toList_eq];exact fun e=>h (ByteArray.ext (Array.toList_inj.1 e))
  have aar:Hid (gK sQ [t,u]=none):=by unfold Hid;rw [FIN.out,au h];rfl
  clear h
  go_enter Tryz.func116, Tryz.ntmps116
  go_wp2_with (go_region_with fail)
  all_goals
   go_ret2
   exact ⟨by rw [aar.out];rfl,by repeat (first|exact Kept.refl aA _|refine Kept.drew ?_|refine Kept.drewN ?_ _)⟩
end Go.Proofs.YtodebjhalipefaaGreatDoor

namespace Go.Proofs.YtodebjhalipefaaGreatDoor
set_option linter.all false
open Go.RowKit
set_option maxRecDepth 100000
set_option maxHeartbeats 4000000
def Cb (d:List Int):List Value:=d.map (Value.int .i64)
theorem ac9:(Tryz.prog.info? 2).map (fun i=>(i.zero,i.size,i.bytes))=some (some (.int .i64 0),1,8):=by kernel_rfl
theorem Jf {ops:Array Oper} {rest:List Oper} {o:Oper} {a:Act} {Q:Exit→Act→World→Prop} {w:World} (hgd:o.guard=none) (s x:Operand)
  (ho:o.op=.call {callee:=.builtin .append,args:=#[s,x],argTypes:=#[235,235]})
  (v:Value) (n:Nat) (d:List Int) (c:Int) (hnd:n=d.length) (hs:a.eval s=v) (B:Nat) (hown:aP w B 2 1 v n (Cb d)) (g:Nat) (hx:a.eval x=.slice (some ⟨g,0,none⟩) 1 1)
  (hg:w.heap[g]?=some (.cells #[.int .i64 c] 2 (0,0))) (hn:d.length≤1000000) (hB:B≤w.heap.size)
  (h:∀a' c' n' w',Hid (n'=(d++[c]).length)→aP w' B 2 1 (.slice a' n' c') n' (Cb (d++[c]))→Kept (fun b=>B≤b) w w'→wpList Tryz.prog ops Q rest (a.put o.dst (.slice a' n' c')) w') :
  wpList Tryz.prog ops Q (o::rest) a w:=by
 obtain ⟨i0,hi0,hz0,hz1,hz2⟩:=info_parts ac9
 have hsr:Src Tryz.prog 1 235 (.slice (some ⟨g,0,none⟩) 1 1) 1 [.int .i64 c] w :=
  Src.ofSlice _ Tryz.underlying235 _ _ _ _ rfl (World.news_of_block (fr:=(0,0)) (cs:=#[.int .i64 c]) hg) (by intro u hu;simp only [List.mem_singleton] at hu;subst hu;rfl)
 refine dw w hgd s x _ _ ho B 2 i0 (.int .i64 0) 1 8 Tryz.underlying235 hi0 hz0 hz1 hz2 rfl v n (Cb d) hs hown _ 1 _ hx hsr (by unfold maxLen;omega) (by omega) hB ?_
 intro a' c' w' hW hgr _
 have e:Cb d++[Value.int .i64 c]=Cb (d++[c]):=by simp [Cb]
 rw [e] at hW
 exact h a' c' _ w' (by unfold Hid;rw [List.length_append,hnd];rfl) hW ((Kept.refl _ w).grown hgr fun k hk=>.inl (hown.lt k hk).1)
def iG:List aj→Option (List Int)
 | []=>some []
 | t::r=>match aS t with
  | none=>none
  | some n=>(iG r).map (n :: ·)
theorem Et:∀(l:List aj) (j:Nat) (d:List Int),iG (l.take j)=some d→(h:j<l.length)→∀n,aS l[j]=some n→iG (l.take (j+1))=some (d++[n])
 | t::r,0,d,hd,_,n,hn=>by
  rw [List.take_zero] at hd;cases hd
  rw [List.take_succ_cons,List.take_zero,iG]
  rw [show (t::r)[0]=t from rfl] at hn
  rw [hn];rfl
 | t::r,j+1,d,hd,h,n,hn=>by
  rw [List.take_succ_cons,iG] at hd⊢
  cases ht:aS t with
  | none=>rw [ht] at hd;cases hd
  | some m =>
   rw [ht] at hd
   dsimp only at hd⊢
   cases hr:iG (r.take j) with
   | none=>rw [hr] at hd;cases hd
   | some q =>
    rw [hr] at hd
    cases hd
    rw [Et r j q hr (by simpa using h) n hn];rfl
theorem Eu:∀(l:List aj) (j:Nat),(h:j<l.length)→aS l[j]=none→iG l=none
 | t::r,0,_,hn=>by rw [iG];rw [show (t::r)[0]=t from rfl] at hn;rw [hn]
 | t::r,j+1,h,hn=>by
  rw [iG]
  split
  ·rfl
  ·rw [Eu r j (by simpa using h) hn];rfl
theorem Gw:∀(l:List aj) (d:List Int),iG l=some d→d.length=l.length
 | [],d,h=>by cases h;rfl
 | t::r,d,h=>by
  rw [iG] at h
  split at h
  ·cases h
  ·cases hr:iG r with
   | none=>rw [hr] at h;cases h
   | some q=>rw [hr] at h;cases h;simp [Gw r q hr]
def agK (o:Option (List Int)) (w:World) (e:Ending) (w':World):Prop :=
 Kept aA w w'∧((o=none∧e=.returned (.tuple #[.slice none 0 0,.bool false]))∨∃d v,o=some d∧e=.returned (.tuple #[v,.bool true])∧∃a n c,v=.slice a n c∧n=d.length∧aP w' w.heap.size 2 1 v n (Cb d))
theorem Qs (l:List aj) (al:Option Addr) (cl:Nat) (w:World) (hg:jq w) (hs:aX w (· < w.heap.size) al l) (hl:l.length≤1000) :
  Calls Tryz.prog 153 #[.slice al l.length cl] w (agK (iG l) w):=by
 have uZ:Hid (∀wx,Kept aA w wx→aX wx (· < wx.heap.size) al l):=fun wx hk=>hs.to hk (Safe.lt (Nat.le_refl _)) (fun _ h=>Nat.lt_of_lt_of_le h hk.size)
 have HG:Hid (∀wx,Kept aA w wx→Ac wx):=fun wx hk=>hg.1.kept hk (fun h=>h)
 have abU:Hid (∀(k:Int) (wx:World),Calls Tryz.prog 120 #[.int .i64 k] wx (Jg (.bool (decide (k=0))) wx)):=Fq
 clear hg hs
 go_enter Tryz.func153, Tryz.ntmps153
 go_wp2_with fail
 go_loopw [4,11] (fun v i wr=>∃(j n:Nat) (d:List Int) (a:Option Addr) (c:Nat),j≤l.length∧i=.int .i64 (j:Int)∧v=.slice a n c∧Hid (n=d.length)∧Hid (iG (l.take j)=some d)∧Hid (aP wr w.heap.size 2 1 v n (Cb d))∧Hid (Kept aA w wr)) (fun _ i _=>l.length-(intOf i).toNat)
 case atStart=>exact ⟨0,0,[],none,0,Nat.zero_le _,rfl,rfl,rfl,rfl,aP.nil ..,Kept.refl _ w⟩
 case round =>
  obtain ⟨j,n,d,a,c,hj,rfl,rfl,hn,hd,hW,hK⟩:=hrel
  by_cases hlt:j<l.length
  ·obtain ⟨bi,oi,rfl,_,hc⟩:=uZ.out wr hK.out (by omega)
   have cj:=hc j hlt
   obtain ⟨tj,htj⟩:∃tj,tj=l[j]:=⟨_,rfl⟩
   rw [←htj] at cj
   have bj:(j:Int)<(l.length:Int):=by omega
   have RI:=Qu tj wr (HG.out wr hK.out)
   cases hz:aS tj with
   | none =>
    have fin:Hid (iG l=none):=Eu l j hlt (by rw [←htj];exact hz)
    rw [hz] at RI
    have HR:Hid (Calls Tryz.prog 211 #[.string tj] wr (fun e w'=>∃x:Int,decide (x=0)=false∧e=.returned (.tuple #[.int .i64 0,.int .i64 x])∧Kept aA wr w')):=RI.mono (by
     rintro e w' ⟨k,⟨n,h,_⟩|⟨_,x,hx,he⟩⟩
     ·cases h
     ·exact ⟨x,au hx,he,k⟩)
    clear hc htj hz RI
    go_wp2_with first
     | (go_at_call 211;(with_reducible refine HR.out.mono ?_);rintro e w2 ⟨x,hx,rfl,k_⟩;have K2:=ah (hK.out.trans k_);clear k_)
     | (go_at_call 120;(with_reducible refine (abU.out _ _).mono ?_);rintro e w3 ⟨rfl,hw3⟩;subst hw3)
    go_ret2
    exact ⟨K2.out,.inl ⟨fin.out,rfl⟩⟩
   | some m =>
    have hd2:=ah (Et l j d hd.out hlt m (by rw [←htj];exact hz))
    rw [hz] at RI
    have HR:Hid (Calls Tryz.prog 211 #[.string tj] wr (fun e w'=>e=.returned (.tuple #[.int .i64 m,.int .i64 0])∧Kept aA wr w')):=RI.mono (by
     rintro e w' ⟨k,⟨n,h,he⟩|⟨h,_⟩⟩
     ·cases h;exact ⟨he,k⟩
     ·cases h)
    have HDL:Hid (d.length≤1000000):=by
     have:=Gw _ _ hd.out
     rw [List.length_take] at this
     unfold Hid;omega
    have e0:decide ((0:Int)=0)=true:=rfl
    clear hc htj hz RI
    go_wp2_with first
     | (go_at_call 211;(with_reducible refine HR.out.mono ?_);rintro e w2 ⟨rfl,k_⟩;have K2:=ah (hK.out.trans k_);have W2:=ah (hW.out.kept k_ (fun _ _ h=>h));clear k_)
     | (go_at_call 120;(with_reducible refine (abU.out _ _).mono ?_);rintro e w3 ⟨rfl,hw3⟩;subst hw3)
     | (refine Jf rfl _ _ rfl _ n d m hn.out rfl w.heap.size (W2.out.alloc _) _ rfl (ay _ _) HDL.out (by have:=K2.out.size;simp;omega) ?_;intro a9 c9 n9 w9 Cc yw hk9;have W9:=ah yw;have K9:Hid (Kept aA w w9):=((K2.out.alloc _).step hk9 (fun y hy=>.inr hy));clear yw hk9)
    go_roundw
    case rel=>exact ⟨j+1,n9,d++[m],a9,c9,by omega,by go_num,rfl,Cc,hd2,W9,K9⟩
    case measure=>simp [intOf];omega
  ·obtain rfl:j=l.length:=by omega
   rw [List.take_length] at hd
   go_wp2_with fail
   go_ret2
   exact ⟨hK.out,.inr ⟨d,_,hd.out,rfl,a,n,c,rfl,hn.out,hW.out⟩⟩
theorem J4 (t u:aj) (al:Option Addr) (cl:Nat) (w:World) (hg:jq w) (hs:aX w (· < w.heap.size) al [t,u]) :
  Calls Tryz.prog 153 #[.slice al 2 cl] w (fun e w'=>Kept aA w w'∧(((aS t=none∨aS u=none)∧e=.returned (.tuple #[.slice none 0 0,.bool false]))∨
   ∃x y g o c,aS t=some x∧aS u=some y∧e=.returned (.tuple #[.slice (some ⟨g,o,none⟩) 2 c,.bool true])∧w'.cell? ⟨g,o,none⟩=some (.int .i64 x)∧w'.cell? ⟨g,o+1,none⟩=some (.int .i64 y))):=by
 refine (Qs [t,u] al cl w hg hs (by simp)).mono ?_
 rintro e w' ⟨k,⟨h,he⟩|⟨d,v,h,he,a,n,c,rfl,hn,hW⟩⟩
 ·refine ⟨k,.inl ⟨?_,he⟩⟩
  rw [iG,iG,iG] at h
  cases ht:aS t with
  | none=>exact .inl rfl
  | some x =>
   rw [ht] at h
   cases hu:aS u with
   | none=>exact .inr rfl
   | some y=>rw [hu] at h;cases h
 ·rw [iG,iG,iG] at h
  cases ht:aS t with
  | none=>rw [ht] at h;cases h
  | some x =>
   rw [ht] at h
   cases hu:aS u with
   | none=>rw [hu] at h;cases h
   | some y =>
    rw [hu] at h
    cases h
    subst hn
    refine ⟨k,.inr ?_⟩
    rcases hW.cells with ⟨_,h0⟩|⟨g,o,cap,hv,_,_,_,_,hc⟩
    ·cases h0
    ·simp only [Value.slice.injEq,true_and] at hv
     obtain ⟨rfl,rfl⟩:=hv
     exact ⟨x,y,g,o,c,rfl,rfl,he,(hc 0 _ rfl).1,(hc 1 _ rfl).1⟩
theorem WL (a b:Int) (w:World):Calls Tryz.prog 178 #[.int .i64 a,.int .i64 b] w (Jg (.int .i64 (if a<b then -1 else if b<a then 1 else 0)) w):=by
 by_cases h:a<b
 ·have e1:decide (a<b)=true:=ak h
  have fin:Hid ((if a<b then (-1:Int) else if b<a then 1 else 0) = -1):=if_pos h
  go_enter Tryz.func178, Tryz.ntmps178
  go_wp2_with fail
  go_ret
  exact ⟨by first|rfl|(rw [fin.out];rfl),rfl⟩
 ·have e1:decide (a<b)=false:=au h
  by_cases h2:b<a
  ·have e2:decide (b<a)=true:=ak h2
   have fin:Hid ((if a<b then (-1:Int) else if b<a then 1 else 0)=1):=by unfold Hid;rw [if_neg h,if_pos h2]
   go_enter Tryz.func178, Tryz.ntmps178
   go_wp2_with fail
   go_ret
   exact ⟨by first|rfl|(rw [fin.out];rfl),rfl⟩
  ·have e2:decide (b<a)=false:=au h2
   have fin:Hid ((if a<b then (-1:Int) else if b<a then 1 else 0)=0):=by unfold Hid;rw [if_neg h,if_neg h2]
   go_enter Tryz.func178, Tryz.ntmps178
   go_wp2_with fail
   go_ret
   exact ⟨by first|rfl|(rw [fin.out];rfl),rfl⟩
end Go.Proofs.YtodebjhalipefaaGreatDoor

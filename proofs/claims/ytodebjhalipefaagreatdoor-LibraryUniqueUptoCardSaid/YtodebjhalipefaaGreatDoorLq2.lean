/-  -/
import Derived.Test.YtodebjhalipefaaGreatDoorLq20
import Derived.Test.YtodebjhalipefaaGreatDoorEx3
import Derived.Test.YtodebjhalipefaaGreatDoorLq9
import Derived.Test.YtodebjhalipefaaGreatDoorLq11
import Derived.BigQuiet
namespace Go.Proofs.YtodebjhalipefaaGreatDoor
set_option linter.all false
open Go.RowKit
set_option maxRecDepth 100000
set_option maxHeartbeats 1000000
theorem QO (l:List aj) (j:Nat) (h:j<l.length):aJ (l.drop j)=if fQ l[j]=true then aJ (l.drop (j+1)) else 7:=by
 rw [List.drop_eq_getElem_cons h,aJ]
theorem xK {w:World} {b:Nat} {l:List aj} {t:TypeId} {fr:Nat×Nat} (h:w.heap[b]?=some (.cells (l.map Value.string).toArray t fr)) {S:Nat→Prop} (hS:S b):aX w S (some ⟨b,0,none⟩) l:=by
 intro _
 refine ⟨b,0,rfl,hS,fun i hi=>?_⟩
 rw [cell_of_row w b (0+i) _ t fr h];simp [hi]
theorem tY (l:List aj) (a:Option Addr) (cap:Nat) (S:Nat→Prop) (w:World) (hl:aX w S a l) (hz:l.length<1000000000∧∀x∈l,x.size<1000000000) :
  Calls Tryz.prog 111 #[.slice a l.length cap] w fun e w'=>e=.returned (.int .i64 (aJ l))∧w'=w:=by
 have HL:=ah hl;have HZ:=ah hz.2
 have hzl:=hz.1
 clear hl hz
 go_enter Tryz.func111, Tryz.ntmps111
 go_wp2_with fail
 go_loop [7] (fun i=>∃j:Nat,j≤l.length∧i=.int .i64 j∧Hid (aJ l=aJ (l.drop j))) (fun i=>l.length-(intOf i).toNat)
 case atStart=>exact ⟨0,Nat.zero_le _,rfl,by unfold Hid;rw [List.drop_zero]⟩
 case round =>
  obtain ⟨j,hj,rfl,hno⟩:=hrel
  by_cases hlt:j<l.length
  ·obtain ⟨b,o,rfl,_,hc⟩:=HL.out (by omega)
   have hcj:=hc j hlt
   have hn:(l[j]).size≤maxLen:=by have:=HZ.out l[j] (List.getElem_mem hlt);unfold maxLen;omega
   have hd:=QO l j hlt
   clear hc
   cases hb:fQ l[j] with
   | true =>
    rw [if_pos hb] at hd
    have step:=ah (hno.out.trans hd)
    have HB:=ah hb
    clear hd hb
    go_wp2_with (go_at_call 108;(with_reducible refine (ru _ _ hn).mono ?_);rintro e w' ⟨rfl,rfl⟩;rw [HB.out])
    go_round
    case rel=>exact ⟨j+1,by omega,by go_num,step⟩
    case measure=>simp [intOf];omega
   | false =>
    rw [if_neg (by simp [hb])] at hd
    have fin:=ah (hno.out.trans hd)
    have HB:=ah hb
    clear hd hb
    go_wp2_with (go_at_call 108;(with_reducible refine (ru _ _ hn).mono ?_);rintro e w' ⟨rfl,rfl⟩;rw [HB.out])
    go_ret
    exact ⟨by rw [fin.out];try rfl,rfl⟩
  ·obtain rfl:j=l.length:=by omega
   have fin:Hid (aJ l=0):=by unfold Hid;rw [hno.out,List.drop_length,aJ]
   go_wp2_with fail
   go_ret
   exact ⟨by rw [fin.out];try rfl,rfl⟩
theorem Ir (p:aB) (v:Value) (S:Nat→Prop) (w:World) (hp:ou w S v p):Calls Tryz.prog 106 #[v] w (wG (decide (isTarget p)) w):=by
 obtain ⟨ka,cap,rfl,hz,hk⟩:=hp
 by_cases h:isTarget p
 ·have hb:Hid (decide (isTarget p)=true):=ak h
  have h':=h;unfold isTarget at h'
  rcases h' with h'|h'|h'
  all_goals
   rw [h']
   clear h
   go_enter Tryz.func106, Tryz.ntmps106
   go_wp2_with fail
   go_ret
   exact ⟨by rw [hb.out];try rfl,(Kept.refl _ _).alloc _⟩
 ·have hb:Hid (decide (isTarget p)=false):=au h
  have h':=h;unfold isTarget at h'
  have e1:(p.kind==3)=false:=by simp;omega
  have e2:(p.kind==4)=false:=by simp;omega
  have e3:(p.kind==5)=false:=by simp;omega
  clear h h'
  go_enter Tryz.func106, Tryz.ntmps106
  go_wp2_with fail
  go_ret
  exact ⟨by rw [hb.out];try rfl,(Kept.refl _ _).alloc _⟩
end Go.Proofs.YtodebjhalipefaaGreatDoor

namespace Go.Proofs.YtodebjhalipefaaGreatDoor
set_option linter.all false
open Go.RowKit
theorem ou.oH {w w':World} {S:Nat→Prop} {v:Value} {p:aB} (h:ou w S v p) (hk:Kept aA w w') (hS:Safe S aA w.heap.size):ou w' S v p:=by
 obtain ⟨a,c,e,z,k⟩:=h
 exact ⟨a,c,e,z,k.kept hk hS⟩
theorem ou.all {w:World} {S:Nat→Prop} {v:Value} {p:aB} (h:ou w S v p) (hS:Safe S aA w.heap.size):ou w (· < w.heap.size) v p:=by
 obtain ⟨a,c,e,z,k⟩:=h
 exact ⟨a,c,e,z,aN.same (fun _ _=>rfl) (fun b hb=>(hS b hb).1) _ _ k⟩
theorem Qm (l:List Int) (j:Nat) (h:j<l.length):dK (l.drop j)=if l[j]=0 then dK (l.drop (j+1)) else l[j]:=by
 rw [List.drop_eq_getElem_cons h,dK]
theorem QY:(Tryz.prog.info? 33).map (fun i=>(i.zero,i.size,i.bytes))=some (some (.int .i64 0),1,8):=by kernel_rfl
theorem MN {w:World} {g:Nat} {es:List Int} (hg:w.heap[g]?=some (.cells (es.map (Value.int .i64)).toArray 33 (0,0))) :
  Src Tryz.prog 1 187 (.slice (some ⟨g,0,none⟩) es.length es.length) es.length (es.map (Value.int .i64)) w:=by
 have h:=World.news_of_block (fr:=(0,0)) (cs:=(es.map (Value.int .i64)).toArray) hg
 simp only [List.toList_toArray,List.size_toArray,List.length_map] at h
 exact Src.ofSlice _ Tryz.underlying187 _ _ _ _ (by simp) h (by intro u hu;obtain ⟨e,_,rfl⟩:=List.mem_map.1 hu;rfl)
theorem gX {ops:Array Oper} {rest:List Oper} {o:Oper} {a:Act} {Q:Exit→Act→World→Prop} {w w0:World} (hgd:o.guard=none) (s x:Operand)
  (ho:o.op=.call {callee:=.builtin .append,args:=#[s,x],argTypes:=#[187,187]})
  (v:Value) (n:Nat) (xs:List Value) (hs:a.eval s=v) (B:Nat) (hown:aP w B 33 1 v n xs) (es:List Int) (g:Nat) (hx:a.eval x=.slice (some ⟨g,0,none⟩) es.length es.length)
  (hg:w.heap[g]?=some (.cells (es.map (Value.int .i64)).toArray 33 (0,0))) (hn:n+es.length≤1000) (hB:B≤w.heap.size) (K0:Kept aA w0 w) (hB0:w0.heap.size≤B)
  (h:∀a' c' w',aP w' B 33 1 (.slice a' (n+es.length) c') (n+es.length) (xs++es.map (Value.int .i64))→Kept aA w0 w'→w.heap.size≤w'.heap.size→wpList Tryz.prog ops Q rest (a.put o.dst (.slice a' (n+es.length) c')) w') :
  wpList Tryz.prog ops Q (o::rest) a w:=by
 obtain ⟨i0,hi0,hz0,hz1,hz2⟩:=info_parts QY
 refine dw w hgd s x _ _ ho B 33 i0 (.int .i64 0) 1 8 Tryz.underlying187 hi0 hz0 hz1 hz2 rfl v n xs hs hown _ es.length (es.map (Value.int .i64)) hx (MN hg) (by unfold maxLen;omega) (by omega) hB ?_
 intro a' c' w' hW hgr _
 exact h a' c' w' hW (K0.grown hgr fun k hk=>.inr (by have:=(hown.lt k hk).1;omega)) hgr.size
theorem MO {i:Nat} {o:Oper} {x:Act} {w:World} {R:Nat→Value→World→Prop} {Q:Exit→Act→World→Prop} (s y:Operand)
  (ho:o.op=.call {callee:=.builtin .append,args:=#[s,y],argTypes:=#[187,187]})
  (hs:x.eval s=.slice none 0 0) (es:List Int) (g:Nat) (hx:x.eval y=.slice (some ⟨g,0,none⟩) es.length es.length)
  (hg:w.heap[g]?=some (.cells (es.map (Value.int .i64)).toArray 33 (0,0))) (hn:es.length≤1000) (B:Nat) (hB:B≤w.heap.size)
  (h:∀a' c' w',aP w' B 33 1 (.slice a' es.length c') es.length (es.map (Value.int .i64))→R i (.slice a' es.length c') w') :
  o.wp Tryz.prog x w (fun a' w'=>∃v,a'=x.put o.dst v∧(∀d,o.dst=some d→R i v w')∧Kept aA w w') Q:=by
 obtain ⟨i0,hi0,hz0,hz1,hz2⟩:=info_parts QY
 refine qO w s y _ _ ho B 33 i0 (.int .i64 0) 1 8 Tryz.underlying187 hi0 hz0 hz1 hz2 rfl (.slice none 0 0) 0 [] hs (aP.nil ..) _ es.length (es.map (Value.int .i64)) hx (MN hg) (by unfold maxLen;omega) (by omega) hB ?_
 intro a' c' w' hW hgr _
 simp only [Nat.zero_add,List.nil_append] at hW⊢
 exact ⟨_,rfl,fun _ _=>h a' c' w' hW,(Kept.refl aA w).grown hgr fun k hk=>by cases hk⟩
end Go.Proofs.YtodebjhalipefaaGreatDoor

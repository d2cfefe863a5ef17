/-  -/
import Derived.Test.YtefjbnhpjdhjmaaGreatDoorTm19
import Derived.Defers
import Derived.Lib.FrozenHead2
import Derived.Test.YtefjbnhpjdhjmaaGreatDoorSpell4
namespace Go.Proofs.YtefjbnhpjdhjmaaGreatDoor
set_option linter.all false
open Go.RowKit
set_option maxRecDepth 100000
set_option maxHeartbeats 2000000
theorem Vh:Go.Proofs.Lays.n240 Tryz.prog Ij:={KH with}
theorem sZ (N T:Nat) (l:List UInt8) (c:UInt8) (u:FrameMode) (w:World) (h:oQ N T l w) (hl:l.length+1≤140737488355328) (hT:T≤w.heap.size) :
  CallsD Tryz.prog 67 #[.pointer (some ⟨N,0,none⟩),.int .u8 c.toNat] u w fun e u' w'=>u'=u∧Ik N T (l++[c]) .nilIface w e w':=by
 obtain ⟨i0,hi,hz0,hz1,hz2⟩:=info_parts zq.infoByte
 have hl2:(Lib.byteCells l).length+1≤140737488355328:=by rw [Lib.byteCells_length];exact hl
 refine callsD_of_wp Tryz.func67 rfl ?_
 rw [Tryz.ntmps67]
 show Code.wp _ _ _ ⟨#[.pointer (some ⟨N,0,none⟩),.int .u8 c.toNat,undef,undef,undef,undef,undef,undef,undef,undef,undef,undef,undef,undef,undef,undef,undef],[]⟩ _
 go_wp2_with (go_at_call 65;refine (Any.Builder_copyCheck_k Vh zq.toX72 T N (Lib.byteCells l) _ h).mono ?_)
 rintro e w1 ⟨rfl,h1,hb1,hk1⟩
 obtain ⟨hB,v,hbk,hown,hne⟩:=h1
 have c0:w1.cell? ⟨N,0,none⟩=some (.pointer (some ⟨N,0,none⟩)):=by rw [Lib.cell_of_heap hbk];rfl
 have c1:w1.cell? ⟨N,1,none⟩=some v:=by rw [Lib.cell_of_heap hbk];rfl
 go_wp2_with (at_builtin;refine wpList_append_ownF _ rfl _ _ 48 rfl T 5 i0 (.int .u8 0) 1 1 Tryz.underlying48 hi hz0 hz1 hz2 rfl (by decide) _ _ _ rfl (hown.alloc _) ⟨w1.heap.size,0,none⟩ 1 1 [.int .u8 c.toNat] rfl rfl ?c1 ?c2 ?c3 ?c4 ?c5 ?_)
 case c1 =>
  intro j u hj
  match j,hj with
  | 0,hj=>simp at hj;subst hj;simp [Addr.add]
 case c2=>intro u hu;simp at hu;subst hu;rfl
 case c3=>unfold maxLen;omega
 case c4=>omega
 case c5=>have:=hb1.size;simp;omega
 intro v' w2 hown' hgrow _
 have hlt:N<w1.heap.size:=(Array.getElem?_eq_some_iff.1 hbk).1
 have hb2:w2.heap[N]?=some (.cells #[.pointer (some ⟨N,0,none⟩),v] 77 (0,0)):=by
  rw [hgrow.block N (by simp;omega) (fun e=>hne e.symm),Lib.alloc_old w1 _ N hlt]
  exact hbk
 have d0:w2.cell? ⟨N,0,none⟩=some (.pointer (some ⟨N,0,none⟩)):=by rw [Lib.cell_of_heap hb2];rfl
 have d1:w2.cell? ⟨N,1,none⟩=some v:=by rw [Lib.cell_of_heap hb2];rfl
 have f1:w2.frozen? ⟨N,1,none⟩=false:=Lib.frozen_of_heap hb2 1
 obtain ⟨g,cap,rfl⟩:∃g cap,v'=.slice (some ⟨g,0,none⟩) ((Lib.byteCells l).length+1) cap:=by
  rcases hown'.2 with ⟨_,h0⟩|⟨g,cap,cur,fz,hv,_⟩
  ·omega
  ·exact ⟨g,cap,hv⟩
 go_wp2_with fail
 go_ret
 refine ⟨rfl,.inr ?_,KB.of ?_ (((hk1.alloc _).grown hgrow (Lib.ownsRowF_kind (hown.alloc _))).setCell ⟨N,1,none⟩ rfl _)⟩
 ·rw [yc];exact Lib.BuilderAtF.put (T:=77) (e:=5) hB hb2 (bs':=Lib.byteCells l++[.int .u8 c.toNat]) (by simpa using hown') zq.neB5
 ·exact ((hb1.alloc (by have:=hb1.size;omega) _).grown hgrow (by have:=hb1.size;simp;omega) (fun k hk=>(hown.lt k hk).1)).setCell (p:=⟨N,1,none⟩) hB _
end Go.Proofs.YtefjbnhpjdhjmaaGreatDoor

namespace Go.Proofs.YtefjbnhpjdhjmaaGreatDoor
set_option linter.all false
open Go.RowKit
set_option maxRecDepth 100000
set_option maxHeartbeats 4000000
theorem qg.kid {N T W:Nat} {S:Nat→Prop} {b o:Nat} {k n:Int} {t nm:aj} {kids:List aA} {l:List UInt8} {w:World} (h:qg N T W S b o (.mk k t n nm kids) l w) (j:Nat) (hj:j<kids.length) :
  ∃kb ko cap,w.cell? ⟨b,o+4,none⟩=some (.slice (some ⟨kb,ko,none⟩) kids.length cap)∧qg N T W S kb (ko+j*5) kids[j] l w:=by
 obtain ⟨_,_,_,_,_,_,ka,cap,p4,hk⟩:=h.pat.open
 dsimp only [aA.aV] at p4 hk
 obtain ⟨kb,ko,rfl⟩:=iJ hk (by omega)
 exact ⟨kb,ko,cap,p4,h.jy,h.wd,h.gl,h.hw,iO kids kb ko j hj hk,h.hS,h.hT,h.hWN,h.hg⟩
theorem jq (N T:Nat) (l:List UInt8) (c:UInt8) (v:Int) (hv:v=c.toNat) (w:World) (h:oQ N T l w) (hl:l.length+1≤140737488355328) (hT:T≤w.heap.size) :
  Calls Tryz.prog 67 #[.pointer (some ⟨N,0,none⟩),.int .u8 v] w (Ik N T (l++[c]) .nilIface w):=by
 subst hv;exact MV N T l c w h hl hT
def EO (N T W:Nat) (S:Nat→Prop) (kids:List aA):Prop :=
 ∀(j:Nat) (hj:j<kids.length) (b o i:Nat) (l:List UInt8) (w:World),qg N T W S b o kids[j] l w→i≤2→l.length+(aG kids[j] i).length≤big→nR N T W S b o i kids[j] l w
theorem QF (N T W:Nat) (S:Nat→Prop) (b o i:Nat) (t:aj) (n:Int) (nm:aj) (kids:List aA) (l:List UInt8) (w:World) (h:qg N T W S b o (.mk 20 t n nm kids) l w) (hn:dH (.mk 20 t n nm kids)=0) (hl:l.length+(aG (.mk 20 t n nm kids) i).length≤big) (hih:EO N T W S kids) :
  nR N T W S b o i (.mk 20 t n nm kids) l w:=by
 obtain ⟨H7,ht,hnn,hnm,h1⟩:=jF hn
 obtain ⟨q,rfl⟩:∃q,kids=[q]:=List.length_eq_one_iff.1 (h1 (by omega))
 obtain ⟨hSb,hz,p0,p1,p2,p3,ka,cap,p4,hkk⟩:=h.pat.open
 dsimp only [aA.aZ,aA.aX,aA.eG,aA.aY,aA.aV] at p0 p1 p2 p3 p4
 unfold nR
 have HH:=ah h;have HIH:=ah hih
 have hN:T≤N:=h.hT
 have e0:decide ((i:Int)<0)=false:=by simp
 have hs:aG (.mk 20 t n nm [q]) i=wJ++(aG q 2++[41]):=by rw [aG];simp only [qm];rfl
 rw [hs] at hl⊢
 have eb:big=1000000000000:=rfl
 have ea:wJ.length=6:=rfl
 simp only [List.length_append,List.length_cons,List.length_nil] at hl
 clear hkk hz hn hs hih h ht hnn hnm h1
 go_enter_defers Tryz.func36, Tryz.ntmps36
 go_wp2_with fail
 refine (bW N T l ⟨#[65,82,66,78,79,40]⟩ _ HH.out.jy (by show l.length+6≤_;omega) HH.out.hw).mono ?_
 rintro e w1 ⟨rfl,B1,K1⟩
 have h1:=HH.out.wrote B1 K1
 obtain ⟨kb,ko,cap1,c4,hq⟩:=h1.kid 0 (by simp)
 rw [show (⟨#[65,82,66,78,79,40]⟩:aj).data.toList=wJ from rfl] at h1 hq
 have H1:=ah h1;have HQ:=ah hq;have iH:=ah K1
 clear B1 K1 h1 hq p0 p1 p2 p3 p4
 go_wp2_with fail
 refine (HIH.out 0 (by simp) kb ko 2 (l++wJ) w1 (by have:=HQ.out;simpa using this) (by omega) (by show (l++wJ).length+(aG q 2).length≤_;rw [List.length_append];omega)).mono ?_
 rintro e w2 ⟨rfl,B2,K2⟩
 have H2:=ah (H1.out.wrote B2 K2)
 have vH:=ah (KB.trans iH.out K2)
 clear B2 K2 c4
 go_wp2_with fail
 refine (jq N T _ 41 41 rfl _ H2.out.jy (by show ((l++wJ)++aG q 2).length+1≤_;simp only [List.length_append];omega) H2.out.hw).mono ?_
 rintro e w3 ⟨rfl,B3,K3⟩
 have Q:Hid (oQ N T (l++(wJ++(aG q 2++[41]))) w3):=by
  have:=B3
  simp only [List.append_assoc] at this
  exact this
 have KK:=ah (KB.trans vH.out K3)
 clear B3 K3
 go_wp2_with fail
 exact ⟨_,results_none rfl _ _ _,rfl,Q.out,KK.out⟩
theorem Um (N T W:Nat) (S:Nat→Prop) (b o i:Nat) (t:aj) (n:Int) (nm:aj) (kids:List aA) (l:List UInt8) (w:World) (h:qg N T W S b o (.mk 21 t n nm kids) l w) (hn:dH (.mk 21 t n nm kids)=0) (hl:l.length+(aG (.mk 21 t n nm kids) i).length≤big) (hih:EO N T W S kids) :
  nR N T W S b o i (.mk 21 t n nm kids) l w:=by
 obtain ⟨H7,ht,hnn,hnm,h1⟩:=jF hn
 obtain ⟨q,rfl⟩:∃q,kids=[q]:=List.length_eq_one_iff.1 (h1 (by omega))
 obtain ⟨hSb,hz,p0,p1,p2,p3,ka,cap,p4,hkk⟩:=h.pat.open
 dsimp only [aA.aZ,aA.aX,aA.eG,aA.aY,aA.aV] at p0 p1 p2 p3 p4
 unfold nR
 have HH:=ah h;have HIH:=ah hih
 have hN:T≤N:=h.hT
 have e0:decide ((i:Int)<0)=false:=by simp
 have hs:aG (.mk 21 t n nm [q]) i=aG q 0++(32::46::32::nm.data.toList):=by rw [aG];simp only [qm];rfl
 rw [hs] at hl⊢
 have eb:big=1000000000000:=rfl
 have Zw:=hnm (by decide)
 have Ry:nm.data.toList.length=nm.size:=rfl
 simp only [List.length_append,List.length_cons] at hl
 have hstr:Hid ((⟨#[32,46,32]⟩:aj)++nm=⟨(32::46::32::nm.data.toList).toArray⟩):=by
  unfold Hid;show (⟨[32,46,32].toArray⟩:aj)++⟨nm.data.toList.toArray⟩=_;rw [kX];rfl
 clear hkk hz hn hs hih h ht hnn hnm h1
 obtain ⟨kb,ko,cap1,c4,hq⟩:=HH.out.kid 0 (by simp)
 have HQ:=ah hq
 clear hq p4
 go_enter_defers Tryz.func36, Tryz.ntmps36
 go_wp2_with fail
 refine (HIH.out 0 (by simp) kb ko 0 l w (by have:=HQ.out;simpa using this) (by omega) (by show l.length+(aG q 0).length≤_;omega)).mono ?_
 rintro e w1 ⟨rfl,B1,K1⟩
 have H1:=ah (HH.out.wrote B1 K1)
 have iH:=ah K1
 obtain ⟨_,_,q0,q1,q2,q3,_⟩:=H1.out.pat.open
 dsimp only [aA.aZ,aA.aX,aA.eG,aA.aY,aA.aV] at q0 q1 q2 q3
 have hln:(l++aG [q][0] 0).length+(⟨(32::46::32::nm.data.toList).toArray⟩:aj).size≤140737488355328:=by
  show (l++aG q 0).length+(32::46::32::nm.data.toList).toArray.size≤_;rw [List.size_toArray];simp only [List.length_append,List.length_cons];omega
 clear B1 K1 c4 p0 p1 p2 p3
 go_wp2_with (go_at_call 31;(rw [hstr.out]);(refine (bW N T _ _ _ H1.out.jy hln H1.out.hw).mono ?_);(rintro e w2 ⟨rfl,B2,K2⟩))
 have Q:Hid (oQ N T (l++(aG q 0++(32::46::32::nm.data.toList))) w2):=by
  have:=B2
  simp only [List.append_assoc] at this
  exact this
 exact ⟨_,results_none rfl _ _ _,rfl,Q.out,KB.trans iH.out K2⟩
theorem Xg (N T W:Nat) (S:Nat→Prop) (b o i:Nat) (t:aj) (n:Int) (nm:aj) (kids:List aA) (l:List UInt8) (w:World) (h:qg N T W S b o (.mk 22 t n nm kids) l w) (hn:dH (.mk 22 t n nm kids)=0) (hl:l.length+(aG (.mk 22 t n nm kids) i).length≤big) (hih:EO N T W S kids) :
  nR N T W S b o i (.mk 22 t n nm kids) l w:=by
 obtain ⟨H7,ht,hnn,hnm,h1⟩:=jF hn
 obtain ⟨q,rfl⟩:∃q,kids=[q]:=List.length_eq_one_iff.1 (h1 (by omega))
 obtain ⟨hSb,hz,p0,p1,p2,p3,ka,cap,p4,hkk⟩:=h.pat.open
 dsimp only [aA.aZ,aA.aX,aA.eG,aA.aY,aA.aV] at p0 p1 p2 p3 p4
 unfold nR
 have HH:=ah h;have HIH:=ah hih
 have hN:T≤N:=h.hT
 have e0:decide ((i:Int)<0)=false:=by simp
 have hs:aG (.mk 22 t n nm [q]) i=aG q 0++(32::36::32::nm.data.toList):=by rw [aG];simp only [qm];rfl
 rw [hs] at hl⊢
 have eb:big=1000000000000:=rfl
 have Zw:=hnm (by decide)
 have Ry:nm.data.toList.length=nm.size:=rfl
 simp only [List.length_append,List.length_cons] at hl
 have hstr:Hid ((⟨#[32,36,32]⟩:aj)++nm=⟨(32::36::32::nm.data.toList).toArray⟩):=by
  unfold Hid;show (⟨[32,36,32].toArray⟩:aj)++⟨nm.data.toList.toArray⟩=_;rw [kX];rfl
 clear hkk hz hn hs hih h ht hnn hnm h1
 obtain ⟨kb,ko,cap1,c4,hq⟩:=HH.out.kid 0 (by simp)
 have HQ:=ah hq
 clear hq p4
 go_enter_defers Tryz.func36, Tryz.ntmps36
 go_wp2_with fail
 refine (HIH.out 0 (by simp) kb ko 0 l w (by have:=HQ.out;simpa using this) (by omega) (by show l.length+(aG q 0).length≤_;omega)).mono ?_
 rintro e w1 ⟨rfl,B1,K1⟩
 have H1:=ah (HH.out.wrote B1 K1)
 have iH:=ah K1
 obtain ⟨_,_,q0,q1,q2,q3,_⟩:=H1.out.pat.open
 dsimp only [aA.aZ,aA.aX,aA.eG,aA.aY,aA.aV] at q0 q1 q2 q3
 have hln:(l++aG [q][0] 0).length+(⟨(32::36::32::nm.data.toList).toArray⟩:aj).size≤140737488355328:=by
  show (l++aG q 0).length+(32::36::32::nm.data.toList).toArray.size≤_;rw [List.size_toArray];simp only [List.length_append,List.length_cons];omega
 clear B1 K1 c4 p0 p1 p2 p3
 go_wp2_with (go_at_call 31;(rw [hstr.out]);(refine (bW N T _ _ _ H1.out.jy hln H1.out.hw).mono ?_);(rintro e w2 ⟨rfl,B2,K2⟩))
 have Q:Hid (oQ N T (l++(aG q 0++(32::36::32::nm.data.toList))) w2):=by
  have:=B2
  simp only [List.append_assoc] at this
  exact this
 exact ⟨_,results_none rfl _ _ _,rfl,Q.out,KB.trans iH.out K2⟩
end Go.Proofs.YtefjbnhpjdhjmaaGreatDoor

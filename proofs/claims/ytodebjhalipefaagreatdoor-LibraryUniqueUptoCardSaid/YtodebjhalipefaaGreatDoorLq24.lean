/-  -/
import Derived.Test.YtodebjhalipefaaGreatDoorLq19
import Derived.Test.YtodebjhalipefaaGreatDoorLq16
import Derived.Test.YtodebjhalipefaaGreatDoorLq20
import Derived.Deep.RegionWith
namespace Go.Proofs.YtodebjhalipefaaGreatDoor
set_option linter.all false
open Go.RowKit
theorem kY {ops:Array Oper} {o oj:Oper} {x:Act} {j d:Nat} {b:Bool} {p q:Prop} (hg:o.guard=some (j,b)) (ho:ops[j]?=some oj) (hd:oj.dst=some d) (hv:x.eval (.tmp d)=.bool b) (hlt:d<x.tmps.size) (hp:p) :
  if Region.wanted o (yielded ops x.tmps)=true then p else q:=by
 have hv':x.tmps[d]?=some (.bool b):=by
  have:x.tmps.getD d undef=.bool b:=hv
  rw [Array.getD_eq_getD_getElem?,Array.getElem?_eq_getElem hlt] at this
  rw [Array.getElem?_eq_getElem hlt]
  exact congrArg some this
 have hw:Region.wanted o (yielded ops x.tmps)=true:=by
  simp only [Region.wanted,hg,yielded,ho,Option.bind_some,hd,hv']
  cases b<;>rfl
 rw [if_pos hw];exact hp
end Go.Proofs.YtodebjhalipefaaGreatDoor

namespace Go.Proofs.YtodebjhalipefaaGreatDoor
set_option linter.all false
open Go.RowKit
set_option maxRecDepth 100000
set_option maxHeartbeats 2000000
def tH (N T en:Nat) (l:List aC) (d:Nat) (w:World) (e:Ending) (w':World):Prop :=
 Kept (· = N) w w'∧match dL en l with
  | .ok (x,r)=>e=.returned (.string x)∧bV N T en r d w'
  | .error er=>jo er e
theorem bV.jm {N T en d:Nat} {l:List aC} {w:World} (h:bV N T en l d w):N<w.heap.size∧T<w.heap.size∧N≠T∧5<N:=by
 obtain ⟨n,a,c,h⟩:=h;exact ⟨h.jm,h.lt,h.ne,h.old⟩
theorem fB {N T en d:Nat} {l:List aC} {w:World} (h:bV N T en l d w):Calls Tryz.prog 65 #[.pointer (some ⟨N,0,none⟩)] w (tH N T en l d w):=by
 have HT:=ah (rU 1 h)
 unfold tu at HT
 cases ht:dZ 1 en l with
 | error er =>
  rw [ht] at HT
  have fin:Hid (dL en l=.error er):=by unfold Hid dL;rw [ht]
  clear h ht
  go_enter Tryz.func65, Tryz.ntmps65
  go_wp2_with (go_at_call 101;(refine HT.out.mono ?_);rintro e w1 ⟨bF,rfl⟩;have K1:=ah bF;clear bF)
  refine ⟨rfl,K1.out,?_⟩
  rw [fin.out]
  exact rfl
 | ok x =>
  obtain ⟨t,r⟩:=x
  rw [ht] at HT
  dsimp only at HT
  unfold EI at HT
  go_enter Tryz.func65, Tryz.ntmps65
  go_upto_region 2 with (go_at_call 101;(refine HT.out.mono ?_);rintro e w1 ⟨bF,rfl,dV⟩;have K1:=ah bF;have R1:=ah dV;clear bF dV)
  obtain ⟨w2,hw2⟩:∃w2,w2=w1.alloc (.cells #[.int .i64 t.kind,.string t.text,.int .i64 t.at_] 130):=⟨_,rfl⟩
  have T2:Hid (nX w1.heap.size t w2):=by rw [hw2];exact ay w1 _
  have k2:Kept aA w1 w2:=by rw [hw2];exact (Kept.refl _ _).alloc _
  have R2:=ah (R1.out.kept k2 (fun h=>h) (fun h=>h))
  have K2:Hid (Kept (· = N) w w2):=K1.out.trans (k2.more (fun _ h=>h.elim))
  rw [←hw2]
  obtain ⟨M,hM⟩:∃M,M=w1.heap.size:=⟨_,rfl⟩
  rw [←hM] at T2⊢
  clear hw2 k2 hM
  obtain ⟨t0,t1,t2,_⟩:=T2.out.cells
  by_cases hl:16<t.text.size
  ·have d1:decide ((16:Int)<(t.text.size:Int))=true:=ak (by omega)
   have d2:decide (16<t.text.size)=true:=ak hl
   have fin:Hid (dL en l=.error (7,t.at_)):=by unfold Hid dL;rw [ht];dsimp only;rw [if_pos hl]
   clear h ht hl
   go_wp2_with (go_at_call 70;(refine (dD _ 7 t.at_ w2).mono ?_);rintro e w3 ⟨rfl,rfl⟩)
   refine ⟨rfl,K2.out,?_⟩
   rw [fin.out]
   exact rfl
  ·have d1:decide ((16:Int)<(t.text.size:Int))=false:=au (by omega)
   have d2:decide (16<t.text.size)=false:=au hl
   have fin:Hid (dL en l=.ok (t.text,r)):=by unfold Hid dL;rw [ht];dsimp only;rw [if_neg hl]
   clear h ht hl
   go_wp2_with fail
   go_ret
   refine ⟨K2.out,?_⟩
   rw [fin.out]
   exact ⟨rfl,R2.out⟩
def uM (N T en:Nat) (l:List aC) (d:Nat) (w:World) (e:Ending) (w':World):Prop :=
 Kept (· = N) w w'∧match dQ en l with
  | .ok (x,r)=>e=.returned (.string x)∧bV N T en r d w'
  | .error er=>jo er e
theorem nC {N T en d:Nat} {l:List aC} {w:World} (h:bV N T en l d w):Calls Tryz.prog 107 #[.pointer (some ⟨N,0,none⟩)] w (uM N T en l d w):=by
 have HA:=ah (jd ⟨#[40]⟩ h)
 unfold qE at HA
 have e40:(⟨#[40]⟩:aj)=bs [40]:=rfl
 have e41:(⟨#[41]⟩:aj)=bs [41]:=rfl
 rw [e40] at HA
 cases h1:dW (bs [40]) en l with
 | error er =>
  rw [h1] at HA
  have fin:Hid (dQ en l=.error er):=by unfold Hid dQ;rw [h1]
  clear h h1 e41
  rw [←e40] at HA
  clear e40
  go_enter Tryz.func107, Tryz.ntmps107
  go_wp2_with (go_at_call 103;(with_reducible refine HA.out.mono ?_);rintro e w1 ⟨bF,rfl⟩;have K1:=ah bF;clear bF)
  refine ⟨rfl,K1.out,?_⟩
  rw [fin.out]
  exact rfl
 | ok r1 =>
  rw [h1] at HA
  dsimp only at HA
  rw [←e40] at HA
  have HB:Hid (∀wy,bV N T en r1 d wy→Calls Tryz.prog 65 #[.pointer (some ⟨N,0,none⟩)] wy (tH N T en r1 d wy)):=fun wy hy=>fB hy
  unfold tH at HB
  cases h2:dL en r1 with
  | error er =>
   rw [h2] at HB
   have fin:Hid (dQ en l=.error er):=by unfold Hid dQ;rw [h1];dsimp only;rw [h2]
   clear h h1 h2 e40 e41
   go_enter Tryz.func107, Tryz.ntmps107
   go_wp2_with (first
    | (go_at_call 103;(with_reducible refine HA.out.mono ?_);rintro e w1 ⟨bF,rfl,dV⟩;have K1:=ah bF;have R1:=ah dV;clear bF dV)
    | (go_at_call 65;(refine (HB.out w1 R1.out).mono ?_);rintro e w2 ⟨bQ,rfl⟩;have K2:=ah bQ;clear bQ))
   refine ⟨rfl,K1.out.trans K2.out,?_⟩
   rw [fin.out]
   exact rfl
  | ok x =>
   obtain ⟨nm,r2⟩:=x
   rw [h2] at HB
   dsimp only at HB
   have HC:Hid (∀wy,bV N T en r2 d wy→Calls Tryz.prog 103 #[.pointer (some ⟨N,0,none⟩),.string ⟨#[41]⟩] wy (qE ⟨#[41]⟩ N T en r2 d wy)):=fun wy hy=>jd _ hy
   unfold qE at HC
   rw [e41] at HC
   cases h3:dW (bs [41]) en r2 with
   | error er =>
    rw [h3] at HC
    have fin:Hid (dQ en l=.error er):=by unfold Hid dQ;rw [h1];dsimp only;rw [h2];dsimp only;rw [h3]
    rw [←e41] at HC
    clear h h1 h2 h3 e40 e41
    go_enter Tryz.func107, Tryz.ntmps107
    go_wp2_with (first
     | (go_at_call 103;(with_reducible refine HA.out.mono ?_);rintro e w1 ⟨bF,rfl,dV⟩;have K1:=ah bF;have R1:=ah dV;clear bF dV)
     | (go_at_call 65;(refine (HB.out w1 R1.out).mono ?_);rintro e w2 ⟨bQ,rfl,iI⟩;have K2:=ah bQ;have R2:=ah iI;clear bQ iI)
     | (go_at_call 103;(with_reducible refine (HC.out w2 R2.out).mono ?_);rintro e w3 ⟨bD,rfl⟩;have K3:=ah bD;clear bD))
    refine ⟨rfl,(K1.out.trans K2.out).trans K3.out,?_⟩
    rw [fin.out]
    exact rfl
   | ok r3 =>
    rw [h3] at HC
    dsimp only at HC
    have fin:Hid (dQ en l=.ok (nm,r3)):=by unfold Hid dQ;rw [h1];dsimp only;rw [h2];dsimp only;rw [h3]
    rw [←e41] at HC
    clear h h1 h2 h3 e40 e41
    go_enter Tryz.func107, Tryz.ntmps107
    go_wp2_with (first
     | (go_at_call 103;(with_reducible refine HA.out.mono ?_);rintro e w1 ⟨bF,rfl,dV⟩;have K1:=ah bF;have R1:=ah dV;clear bF dV)
     | (go_at_call 65;(refine (HB.out w1 R1.out).mono ?_);rintro e w2 ⟨bQ,rfl,iI⟩;have K2:=ah bQ;have R2:=ah iI;clear bQ iI)
     | (go_at_call 103;(with_reducible refine (HC.out w2 R2.out).mono ?_);rintro e w3 ⟨bD,rfl,iL⟩;have K3:=ah bD;have R3:=ah iL;clear bD iL))
    go_ret
    refine ⟨(K1.out.trans K2.out).trans K3.out,?_⟩
    rw [fin.out]
    exact ⟨rfl,R3.out⟩
end Go.Proofs.YtodebjhalipefaaGreatDoor

namespace Go.Proofs.YtodebjhalipefaaGreatDoor
set_option linter.all false
open Go.RowKit
set_option maxRecDepth 100000
set_option maxHeartbeats 4000000
def AU (N T en:Nat) (l:List aC) (d:Nat) (w:World) (e:Ending) (w':World):Prop :=
 Kept (· = N) w w'∧match qx en l with
  | .ok (p,r)=>(∃v,e=.returned v∧YX w.heap.size p w' v)∧bV N T en r d w'
  | .error er=>jo er e
theorem DK {N T en d:Nat} {l:List aC} {w:World} (h:bV N T en l d w):Calls Tryz.prog 104 #[.pointer (some ⟨N,0,none⟩)] w (AU N T en l d w):=by
 obtain ⟨hN,hT,hne,h7⟩:=h.jm
 have hb:oD l:=by obtain ⟨_,_,_,h⟩:=h;exact h.good
 obtain ⟨w0,hw0⟩:∃w0,w0=w.alloc (.cells #[.int .i64 0,.string ⟨#[]⟩,.int .i64 0,.string ⟨#[]⟩,.slice none 0 0] 67):=⟨_,rfl⟩
 have k0:Kept aA w w0:=by rw [hw0];exact (Kept.refl _ _).alloc _
 have Z0:Hid (Five w.heap.size (.int .i64 0) (.string ⟨#[]⟩) (.int .i64 0) (.string ⟨#[]⟩) (.slice none 0 0) w0):=by rw [hw0];exact ay w _
 have P0:=h.kept k0 (fun h=>h) (fun h=>h)
 have HT:=ah (rU 4 P0)
 unfold tu at HT
 have K0:=ah k0;have HW0:=ah hw0
 clear k0 hw0 P0 h
 cases ht:dZ 4 en l with
 | error er =>
  rw [ht] at HT
  have fin:Hid (qx en l=.error er):=by unfold Hid qx;rw [ht]
  clear ht hb
  go_enter Tryz.func104, Tryz.ntmps104
  go_upto_region 1 with fail
  rw [←HW0.out]
  go_wp2_with (go_at_call 101;(refine HT.out.mono ?_);rintro e w1 ⟨bF,rfl⟩;have K1:=ah bF;clear bF)
  refine ⟨rfl,(K0.out.more (fun _ h=>h.elim)).trans K1.out,?_⟩
  rw [fin.out]
  exact rfl
 | ok x =>
  exfalso
  cases l with
  | nil=>cases ht
  | cons u v =>
   simp only [dZ] at ht
   split at ht
   ·next hk=>exact (hb u (List.mem_cons_self ..)).2.2.1 hk
   ·cases ht
end Go.Proofs.YtodebjhalipefaaGreatDoor

namespace Go.Proofs.YtodebjhalipefaaGreatDoor
set_option linter.all false
open Go.RowKit Go.Maps Go.WideMaps
set_option maxRecDepth 100000
set_option maxHeartbeats 4000000
theorem eG.oI {w:World} {B n:Nat} {m:aj→Option Int} (h:eG w B n m) (s:aj) (hs:s.size≤maxLen) :
  (Instr.lookup 295 (.map (some B)) (.string s) false).run Tryz.prog w=.ok (.int .i64 ((m s).getD 0)) w:=by
 obtain ⟨D,hown,hmap,hD⟩:=h
 obtain ⟨c,hrun,hat,_⟩:=hown.lookup_int qy Tryz.underlying295 Tryz.underlying3 (IV w) (keyOf_string_mk Tryz.underlying9 hs)
 obtain ⟨h1,h2⟩:=hD s
 rw [h2] at hat
 rw [hrun]
 cases hms:m s with
 | none=>rw [hms] at hat;simp only [DataW.lit.injEq,Lit.int.injEq,true_and] at hat;subst hat;rfl
 | some d=>rw [hms] at hat;simp only [DataW.lit.injEq,Lit.int.injEq,true_and] at hat;subst hat;rfl
theorem eG.acT {w:World} {B n:Nat} {m:aj→Option Int} (h:eG w B n m) (hn:n<maxLen) (s:aj) (hs:s.size≤maxLen) (c:Int) (hc:(Lit.int .i64 c).wf=true) :
  ∃w',(Instr.mapUpdate 295 (.map (some B)) (.string s) (.int .i64 c)).run Tryz.prog w=.ok () w'∧eG w' B (n+1) (kL m s c)∧Kept (· = B) w w':=by
 obtain ⟨D,hown,hmap,hD⟩:=h
 obtain ⟨w',hrun,hown',hgr⟩:=hown.update qy Tryz.underlying295 hn (val:=.int .i64 c) (d:=.lit (.int .i64 c)) (ps:=[]) (keyOf_string_mk Tryz.underlying9 hs) (plainElem_int Tryz.underlying3 hc)
 refine ⟨w',hrun,⟨_,hown',?_,fun t=>?_⟩,(Kept.refl (· = B) w).grown hgr fun k hk=>.inl (by cases hk;rfl)⟩
 ·obtain ⟨es,rfl⟩:=hmap;exact ⟨_,rfl⟩
 ·have hkl:WideAt.IsKeyLit (Lit.string s.data.toList):=by first|exact .string _|trivial|(simp [WideAt.IsKeyLit])
  unfold kL
  by_cases ht:t=s
  ·subst ht
   rw [if_pos rfl]
   exact ⟨has_put_same hmap hkl _,fun z=>atKey_put_same hmap hkl _ z⟩
  ·rw [if_neg ht]
   exact ⟨(has_put_other (lG ht) _).trans (hD t).1,fun z=>(atKey_put_other (lG ht) _ z).trans ((hD t).2 z)⟩
theorem pW {w:World} {ops:Array Oper} {rest:List Oper} {o:Oper} {a:Act} {Q:Exit→Act→World→Prop} (hg:o.guard=none) (p x y:Operand) (hop:o.op=Op.insert 295 p x y)
  {B n:Nat} {m:aj→Option Int} (hm:a.eval p=.map (some B)) (h:eG w B n m) (hn:n<maxLen) (s:aj) (hx:a.eval x=.string s) (hs:s.size≤maxLen) (c:Int) (hy:a.eval y=.int .i64 c) (hc:(Lit.int .i64 c).wf=true)
  (hK:∀w',eG w' B (n+1) (kL m s c)→Kept (· = B) w w'→wpList Tryz.prog ops Q rest (a.put o.dst undef) w'):wpList Tryz.prog ops Q (o::rest) a w:=by
 obtain ⟨w',hrun,hv,hk⟩:=h.acT hn s hs c hc
 refine wpList_plain hg fun K' hK'=>?_
 unfold Oper.wp
 simp [execOp,hop,hm,hx,hy,hrun,Result.andThen]
 exact hK' _ _ (hK w' hv hk)
def Bq (rC:Nat) (s:aj):Option Int:=if BN rC s=0 then none else some (BN rC s)
theorem acU (rC:Nat) (s:aj):(Bq rC s).getD 0=BN rC s:=by
 unfold Bq;split
 ·rename_i h;rw [h];rfl
 ·rfl
theorem ah7:kL (fun _=>none) ⟨#[38]⟩ 8=Bq 1:=by
 funext s
 have e:bs [38]=⟨#[38]⟩:=rfl
 unfold kL Bq BN
 rw [e]
 by_cases h:s=⟨#[38]⟩<;>simp [h]
theorem ah8:kL (kL (fun _=>none) ⟨#[43]⟩ 9) ⟨#[45]⟩ 10=Bq 2:=by
 funext s
 have e1:bs [43]=⟨#[43]⟩:=rfl
 have e2:bs [45]=⟨#[45]⟩:=rfl
 have n12:¬(⟨#[45]⟩:aj)=⟨#[43]⟩:=by decide
 unfold kL Bq BN
 rw [e1,e2]
 by_cases h:s=⟨#[43]⟩
 ·subst h;simp
 ·by_cases h2:s=⟨#[45]⟩<;>simp [h,h2]
theorem ah9:kL (kL (kL (fun _=>none) ⟨#[42]⟩ 11) ⟨#[47]⟩ 12) ⟨#[37]⟩ 13=Bq 3:=by
 funext s
 have e1:bs [42]=⟨#[42]⟩:=rfl
 have e2:bs [47]=⟨#[47]⟩:=rfl
 have e3:bs [37]=⟨#[37]⟩:=rfl
 unfold kL Bq BN
 rw [e1,e2,e3]
 by_cases h:s=⟨#[42]⟩
 ·subst h;simp
 ·by_cases h2:s=⟨#[47]⟩
  ·subst h2;simp
  ·by_cases h3:s=⟨#[37]⟩<;>simp [h,h2,h3]
structure wE (lo B:Nat) (w:World):Prop where
 low:lo≤B
 maps:∃m1 m2 m3 n1 n2 n3,lo≤m1∧lo≤m2∧lo≤m3∧w.heap[B]?=some (.cells #[.map (some m1),.map (some m2),.map (some m3)] 295 (0,0))∧eG w m1 n1 (Bq 1)∧eG w m2 n2 (Bq 2)∧eG w m3 n3 (Bq 3)
theorem wE.kept {lo B:Nat} {w w':World} {X:Nat→Prop} (h:wE lo B w) (hk:Kept X w w') (hx:∀b,X b→b<lo):wE lo B w':=by
 obtain ⟨h0,m1,m2,m3,n1,n2,n3,l1,l2,l3,hb,a1,a2,a3⟩:=h
 have hB:B<w.heap.size:=(Array.getElem?_eq_some_iff.1 hb).1
 exact ⟨h0,m1,m2,m3,n1,n2,n3,l1,l2,l3,by rw [hk.block B hB (fun h=>by have:=hx _ h;omega)];exact hb,a1.kept hk (fun h=>by have:=hx _ h;omega),a2.kept hk (fun h=>by have:=hx _ h;omega),a3.kept hk (fun h=>by have:=hx _ h;omega)⟩
theorem wE.lt {lo B:Nat} {w:World} (h:wE lo B w):B<w.heap.size:=by
 obtain ⟨h0,m1,m2,m3,n1,n2,n3,l1,l2,l3,hb,_⟩:=h
 exact (Array.getElem?_eq_some_iff.1 hb).1
def aia (w:World) (e:Ending) (w':World):Prop:=∃B,e=.returned (.slice (some ⟨B,0,none⟩) 3 3)∧wE w.heap.size B w'∧Kept aA w w'
theorem Gm (w:World):Calls Tryz.prog 145 #[] w (aia w):=by
 have hmk:=fun (wx:World)=>run_makeMap (P:=Tryz.prog) 295 wx
 have M1:=ah (eG.made w)
 have K1:Hid (Kept aA w (w.alloc (.map #[] 0))):=(Kept.refl _ _).alloc _
 go_enter Tryz.func145, Tryz.ntmps145
 go_wp2_with (first
  | (refine pW rfl _ _ _ rfl rfl M1.out (by decide) ⟨#[38]⟩ rfl (by decide) 8 rfl (by decide) ?_;intro w2 m_ k_;have M2:=ah m_;have K2:Hid (Kept aA w w2):=K1.out.step k_ (fun y hy=>.inr (Nat.le_of_eq hy.symm));have N2:=ah (eG.made w2);have M2':=ah (M2.out.kept ((Kept.refl aA w2).alloc (.map #[] 0)) (fun h=>h));have K2':Hid (Kept aA w (w2.alloc (.map #[] 0))):=K2.out.alloc _;have H2:Hid (w.heap.size<w2.heap.size):=M2.out.lt;clear m_ k_)
  | (refine pW rfl _ _ _ rfl rfl N2.out (by decide) ⟨#[43]⟩ rfl (by decide) 9 rfl (by decide) ?_;intro w3 m_ k_;have N3:=ah m_;have M3:=ah (M2'.out.kept k_ (by have:=H2.out;omega));have K3:Hid (Kept aA w w3):=K2'.out.step k_ (fun y hy=>.inr (by have:=H2.out;omega));clear m_ k_)
  | (refine pW rfl _ _ _ rfl rfl N3.out (by decide) ⟨#[45]⟩ rfl (by decide) 10 rfl (by decide) ?_;intro w4 m_ k_;have N4:=ah m_;have M4:=ah (M3.out.kept k_ (by have:=H2.out;omega));have K4:Hid (Kept aA w w4):=K3.out.step k_ (fun y hy=>.inr (by have:=H2.out;omega));have O4:=ah (eG.made w4);have M4':=ah (M4.out.kept ((Kept.refl aA w4).alloc (.map #[] 0)) (fun h=>h));have N4':=ah (N4.out.kept ((Kept.refl aA w4).alloc (.map #[] 0)) (fun h=>h));have K4':Hid (Kept aA w (w4.alloc (.map #[] 0))):=K4.out.alloc _;have H4:Hid (w2.heap.size<w4.heap.size):=N4.out.lt;clear m_ k_)
  | (refine pW rfl _ _ _ rfl rfl O4.out (by decide) ⟨#[42]⟩ rfl (by decide) 11 rfl (by decide) ?_;intro w5 m_ k_;have O5:=ah m_;have M5:=ah (M4'.out.kept k_ (by have:=H2.out;have:=H4.out;omega));have N5:=ah (N4'.out.kept k_ (by have:=H4.out;omega));have K5:Hid (Kept aA w w5):=K4'.out.step k_ (fun y hy=>.inr (by have:=H2.out;have:=H4.out;omega));clear m_ k_)
  | (refine pW rfl _ _ _ rfl rfl O5.out (by decide) ⟨#[47]⟩ rfl (by decide) 12 rfl (by decide) ?_;intro w6 m_ k_;have O6:=ah m_;have M6:=ah (M5.out.kept k_ (by have:=H2.out;have:=H4.out;omega));have N6:=ah (N5.out.kept k_ (by have:=H4.out;omega));have K6:Hid (Kept aA w w6):=K5.out.step k_ (fun y hy=>.inr (by have:=H2.out;have:=H4.out;omega));clear m_ k_)
  | (refine pW rfl _ _ _ rfl rfl O6.out (by decide) ⟨#[37]⟩ rfl (by decide) 13 rfl (by decide) ?_;intro w7 m_ k_;have O7:=ah m_;have M7:=ah (M6.out.kept k_ (by have:=H2.out;have:=H4.out;omega));have N7:=ah (N6.out.kept k_ (by have:=H4.out;omega));have K7:Hid (Kept aA w w7):=K6.out.step k_ (fun y hy=>.inr (by have:=H2.out;have:=H4.out;omega));clear m_ k_))
 go_ret
 have k8:Kept aA w7 (w7.alloc (.cells #[.map (some w.heap.size),.map (some w2.heap.size),.map (some w4.heap.size)] 295)):=(Kept.refl _ _).alloc _
 have M8:=M7.out.kept k8 (fun h=>h)
 have N8:=N7.out.kept k8 (fun h=>h)
 have O8:=O7.out.kept k8 (fun h=>h)
 rw [ah7] at M8
 rw [ah8] at N8
 rw [ah9] at O8
 have h2:=H2.out;have h4:=H4.out
 exact ⟨w7.heap.size,rfl,⟨K7.out.size,_,_,_,_,_,_,Nat.le_refl _,by omega,by omega,ay w7 _,M8,N8,O8⟩,K7.out.trans k8⟩
end Go.Proofs.YtodebjhalipefaaGreatDoor

namespace Go.Proofs.YtodebjhalipefaaGreatDoor
set_option linter.all false
open Go.RowKit
set_option maxRecDepth 100000
theorem acF:(Tryz.prog.info? 121).map (fun i=>(i.zero,i.size,i.bytes))=some (some (.int .u32 0),1,4):=by kernel_rfl
theorem BK {w:World} {ops:Array Oper} {rest:List Oper} {o:Oper} {a:Act} {Q:Exit→Act→World→Prop} (hgd:o.guard=none) (s x:Operand) (t:TypeId)
  (ho:o.op=.call {callee:=.builtin .append,args:=#[s,x],argTypes:=#[t,t]}) (e:TypeId) (i:TypeInfo) (ht:Tryz.prog.underlying t=some (.slice e)) (hi:Tryz.prog.info? e=some i)
  (ad:Option Addr) (c:Nat) (hs:a.eval s=.slice none 0 0) (hx:a.eval x=.slice ad 0 c) (h:wpList Tryz.prog ops Q rest (a.put o.dst (.slice none 0 0)) w):wpList Tryz.prog ops Q (o::rest) a w:=by
 refine wpList_plain hgd fun K hK=>?_
 have hrun:=Qk (ty:=o.type) ht hi ad c w
 unfold Oper.wp
 simp [execOp,ho,resolve,invoke,builtin,hs,hx,hrun,Result.andThen]
 exact hK _ _ h
theorem WV.shape {w:World} {S:Nat→Prop} {v:Value} {u:Nat} (h:WV w S v u):∃a n c,v=.slice a n c:=by
 rcases h with ⟨_,a,c,e⟩|⟨_,_,b,c,e,_⟩|⟨_,_,b,c,e,_⟩<;>exact ⟨_,_,_,e⟩
theorem EY {w:World} {base g n cap:Nat} {xs:List Value} (h:w.ownsRow base 121 1 (.slice (some ⟨g,0,none⟩) n cap) n xs) (j:Nat) (x:Value) (hx:xs[j]?=some x):w.cell? ⟨g,j,none⟩=some x:=by
 have:=World.ownsRow.cells h (g:=g) rfl j x hx
 have e:(⟨g,0,none⟩:Addr).add j=⟨g,j,none⟩:=by unfold Addr.add;split<;>simp_all
 rw [e] at this;exact this
theorem twin_any (v:Value) (u:Nat) (w:World) (h:WV w (· < w.heap.size) v u):Calls Tryz.prog 32 #[v] w (BJ u w):=by
 obtain ⟨i0,hi0,hz0,hz1,hz2⟩:=info_parts acF
 rcases h with ⟨rfl,a,c,rfl⟩|⟨h1,h2,b,c,rfl,hb,h3⟩|⟨h1,h2,b,c,rfl,hb,h3,h4⟩
 ·go_enter Tryz.func32, Tryz.ntmps32
  go_wp2_with (at_builtin;refine BK rfl _ _ _ rfl 121 i0 Tryz.underlying49 hi0 a c rfl rfl ?_)
  go_ret
  exact ⟨_,rfl,.inl ⟨rfl,_,_,rfl⟩,Kept.refl _ _⟩
 ·have H3:=ah h3
  go_enter Tryz.func32, Tryz.ntmps32
  go_wp2_with (at_builtin;go_loud (refine wpList_append_lies _ rfl _ _ 49 rfl w.heap.size 121 i0 (.int .u32 0) 1 4 Tryz.underlying49 hi0 hz0 hz1 hz2 rfl (by decide) (.slice none 0 0) 0 [] rfl (World.ownsRow_nil _ _ _ _) ⟨b,0,none⟩ 1 c [.int .u32 u] rfl rfl (by intro j x hj;match j,hj with|0,hj=>simp at hj;subst hj;exact H3.out) (by intro x hx;simp at hx;subst hx;rfl) (by decide) (by decide) (by decide) (Nat.le_refl _) w.heap.size rfl ?_);intro g cap w' hown hg MH hlt;have OWN:=ah hown;have KG:Hid (Kept aA w w'):=(Kept.refl aA w).grown hg (fun k hk=>by cases hk);have HG:Hid (w.heap.size≤g∧g<w'.heap.size):=(by rcases MH with e|e;cases e;exact ⟨by omega,hlt⟩);clear hown hg MH hlt)
  go_ret
  exact ⟨_,rfl,.inr (.inl ⟨h1,h2,_,_,rfl,HG.out,EY OWN.out 0 _ rfl⟩),KG.out⟩
 ·have H3:=ah h3;have H4:=ah h4
  go_enter Tryz.func32, Tryz.ntmps32
  go_wp2_with (at_builtin;go_loud (refine wpList_append_lies _ rfl _ _ 49 rfl w.heap.size 121 i0 (.int .u32 0) 1 4 Tryz.underlying49 hi0 hz0 hz1 hz2 rfl (by decide) (.slice none 0 0) 0 [] rfl (World.ownsRow_nil _ _ _ _) ⟨b,0,none⟩ 2 c [.int .u32 ((u % 4294967296:Nat):Int),.int .u32 ((u/4294967296:Nat):Int)] rfl rfl (by intro j x hj;match j,hj with|0,hj=>simp at hj;subst hj;exact H3.out|1,hj=>simp at hj;subst hj;exact H4.out) (by intro x hx;simp at hx;rcases hx with rfl|rfl<;>rfl) (by decide) (by decide) (by decide) (Nat.le_refl _) w.heap.size rfl ?_);intro g cap w' hown hg MH hlt;have OWN:=ah hown;have KG:Hid (Kept aA w w'):=(Kept.refl aA w).grown hg (fun k hk=>by cases hk);have HG:Hid (w.heap.size≤g∧g<w'.heap.size):=(by rcases MH with e|e;cases e;exact ⟨by omega,hlt⟩);clear hown hg MH hlt)
  go_ret
  exact ⟨_,rfl,.inr (.inr ⟨h1,h2,_,_,rfl,HG.out,EY OWN.out 0 _ rfl,EY OWN.out 1 _ rfl⟩),KG.out⟩
def um (w:World) (N:Nat):Prop:=∃x y,w.heap[N]?=some (.cells #[.bool x,y] 51 (0,0))
def iV (w:World) (N u:Nat):Prop:=∃v,w.heap[N]?=some (.cells #[.bool false,v] 51 (0,0))∧WV w (· < w.heap.size) v u
theorem iV.blk {w:World} {N u:Nat} (h:iV w N u):um w N:=by obtain ⟨v,h,_⟩:=h;exact ⟨_,_,h⟩
theorem um.lt {w:World} {N:Nat} (h:um w N):N<w.heap.size:=by obtain ⟨x,y,h⟩:=h;exact (Array.getElem?_eq_some_iff.1 h).1
theorem um.kept {w w':World} {N:Nat} {X:Nat→Prop} (h:um w N) (hk:Kept X w w') (hx:¬X N):um w' N:=by
 have hlt:=h.lt
 obtain ⟨x,y,h⟩:=h
 exact ⟨x,y,(hk.block N hlt hx).trans h⟩
theorem WV.set {w w':World} {v:Value} {u:Nat} {X:Nat→Prop} (h:WV w (· < w.heap.size) v u) (hk:Kept X w w') (hX:∀M,X M→um w M):WV w' (· < w'.heap.size) v u:=by
 have key:∀b z,w.cell? ⟨b,0,none⟩=some (.int .u32 z)→¬X b:=by
  intro b z hc hx
  obtain ⟨x,y,hM⟩:=hX b hx
  rw [cell_of_row _ _ _ _ _ _ hM] at hc
  simp at hc
 rcases h with h|⟨h1,h2,b,c,e,hb,h3⟩|⟨h1,h2,b,c,e,hb,h3,h4⟩
 ·exact .inl h
 ·exact .inr (.inl ⟨h1,h2,b,c,e,Nat.lt_of_lt_of_le hb hk.size,(hk.cell hb (key b _ h3)).trans h3⟩)
 ·exact .inr (.inr ⟨h1,h2,b,c,e,Nat.lt_of_lt_of_le hb hk.size,(hk.cell hb (key b _ h3)).trans h3,(hk.cell hb (key b _ h3)).trans h4⟩)
theorem iV.set {w w':World} {N u:Nat} {X:Nat→Prop} (h:iV w N u) (hk:Kept X w w') (hX:∀M,X M→um w M) (hn:¬X N):iV w' N u:=by
 have hlt:=h.blk.lt
 obtain ⟨v,h1,h2⟩:=h
 exact ⟨v,(hk.block N hlt hn).trans h1,h2.set hk hX⟩
theorem iV.quiet {w w':World} {N u:Nat} (h:iV w N u) (hk:Kept aA w w'):iV w' N u:=h.set hk (fun _ h=>h.elim) (fun h=>h)
def abJ (N:Nat) (v:Value) (w:World) (e:Ending) (w':World):Prop:=e=.returned (.pointer (some ⟨N,0,none⟩))∧w'.heap[N]?=some (.cells #[.bool false,v] 51 (0,0))∧Kept (· = N) w w'
theorem zU (N:Nat) (a:Option Addr) (n c:Nat) (w:World) (hb:um w N):Calls Tryz.prog 31 #[.pointer (some ⟨N,0,none⟩),.bool false,.slice a n c] w (abJ N (.slice a n c) w):=by
 obtain ⟨x,y,hb⟩:=hb
 have c0:w.cell? ⟨N,0,none⟩=some (.bool x):=by rw [cell_of_row _ _ _ _ _ _ hb];rfl
 have c1:w.cell? ⟨N,1,none⟩=some y:=by rw [cell_of_row _ _ _ _ _ _ hb];rfl
 have f0:w.frozen? ⟨N,0,none⟩=false:=by simp [World.frozen?,hb]
 have f1:w.frozen? ⟨N,1,none⟩=false:=by simp [World.frozen?,hb]
 have s1:=heap_setCell_same w N 1 _ _ (.slice a n c) hb
 have s2:=heap_setCell_same (w.setCell ⟨N,1,none⟩ (.slice a n c)) N 0 _ _ (.bool false) s1
 have FIN:Hid (abJ N (.slice a n c) w (.returned (.pointer (some ⟨N,0,none⟩))) ((w.setCell ⟨N,1,none⟩ (.slice a n c)).setCell ⟨N,0,none⟩ (.bool false))) :=
  ⟨rfl,by rw [s2];rfl,((Kept.refl (· = N) w).setCell (p:=⟨N,1,none⟩) (.inl rfl) _).setCell (p:=⟨N,0,none⟩) (.inl rfl) _⟩
 have g0:(w.setCell ⟨N,1,none⟩ (.slice a n c)).cell? ⟨N,0,none⟩=some (.bool x):=by rw [cell_of_row _ _ _ _ _ _ s1];rfl
 have gf:(w.setCell ⟨N,1,none⟩ (.slice a n c)).frozen? ⟨N,0,none⟩=false:=by simp [World.frozen?,s1]
 clear hb s1 s2
 go_enter Tryz.func31, Tryz.ntmps31
 go_wp2_with fail
 go_ret
 exact FIN.out
def adZ (N u:Nat) (w:World) (e:Ending) (w':World):Prop:=e=.returned (.pointer (some ⟨N,0,none⟩))∧iV w' N u∧Kept (· = N) w w'
theorem Tz (N u:Nat) (hu:u<9223372036854775808) (w:World) (hb:um w N):Calls Tryz.prog 46 #[.pointer (some ⟨N,0,none⟩),.int .i64 u] w (adZ N u w):=by
 have HB:=ah hb
 clear hb
 have e0:decide ((u:Int)<0)=false:=by simp
 have hw:=xQ u (by omega)
 have HWQ:=ah hw
 clear hw
 go_enter Tryz.func46, Tryz.ntmps46
 go_wp2_with (first
  | (go_at_call 49;go_loud (refine (HWQ.out w).mono ?_);rintro e w1 ⟨v,rfl,hv,k1⟩;obtain ⟨a,n,c,rfl⟩:=hv.shape;have V1:=ah hv;have K1:=ah k1;clear hv k1)
  | (go_at_call 31;(refine (zU N a n c w1 (HB.out.kept K1.out (fun h=>h))).mono ?_);rintro e w2 ⟨rfl,hb2,k2⟩;have B2:=ah hb2;have K2:=ah k2;clear hb2 k2))
 go_ret
 have hB1:=HB.out.kept K1.out (fun h=>h)
 exact ⟨rfl,⟨_,B2.out,(V1.out.to (Kept.refl aA w1) (fun b hb=>⟨hb.2,fun h=>h⟩) (fun b hb=>hb.2)).set K2.out (fun M hM=>by rw [hM];exact hB1)⟩,(K1.out.more (fun _ h=>h.elim)).trans K2.out⟩
def ad1 (u:Nat) (w:World) (e:Ending) (w':World):Prop:=e=.returned (.pointer (some ⟨w.heap.size,0,none⟩))∧iV w' w.heap.size u∧Kept aA w w'
theorem TA (u:Nat) (hu:u<9223372036854775808) (w:World):Calls Tryz.prog 30 #[.int .i64 u] w (ad1 u w):=by
 obtain ⟨w1,hw1⟩:∃w1,w1=w.alloc (.cells #[.bool false,.slice none 0 0] 51):=⟨_,rfl⟩
 have HB:Hid (um w1 w.heap.size):=by rw [hw1];exact ⟨_,_,ay w _⟩
 have K1:Hid (Kept aA w w1):=by rw [hw1];exact (Kept.refl _ _).alloc _
 have HW1:=ah hw1
 clear hw1
 go_enter Tryz.func30, Tryz.ntmps30
 go_wp2_with (go_at_call 46;rw [←HW1.out];(refine (Tz w.heap.size u hu w1 HB.out).mono ?_);rintro e w2 ⟨rfl,b2,k2⟩;have B2:=ah b2;have K2:=ah k2;clear b2 k2)
 go_ret
 exact ⟨rfl,B2.out,K1.out.step K2.out (fun y hy=>.inr (by have h:y=w.heap.size:=hy;omega))⟩
theorem QV (u:Nat) (hu:u<9223372036854775808) (w:World):Calls Tryz.prog 15 #[.int .i64 u] w (ad1 u w):=by
 go_enter Tryz.func15, Tryz.ntmps15
 go_wp2_with (go_at_call 30;(refine (TA u hu w).mono ?_);rintro e w2 ⟨rfl,b2,k2⟩;have B2:=ah b2;have K2:=ah k2;clear b2 k2)
 go_ret
 exact ⟨rfl,B2.out,K2.out⟩
theorem ZC (N u:Nat) (w:World) (h:iV w N u):Calls Tryz.prog 16 #[.pointer (some ⟨N,0,none⟩)] w fun e w'=>e=.returned (.int .i64 (if u=0 then 0 else 1))∧w'=w:=by
 obtain ⟨v,hb,hv⟩:=h
 have c0:w.cell? ⟨N,0,none⟩=some (.bool false):=by rw [cell_of_row _ _ _ _ _ _ hb];rfl
 have c1:w.cell? ⟨N,1,none⟩=some v:=by rw [cell_of_row _ _ _ _ _ _ hb];rfl
 rcases hv with ⟨rfl,a,c,rfl⟩|⟨h1,h2,b,c,rfl,-⟩|⟨h1,h2,b,c,rfl,-⟩
 ·rw [if_pos rfl]
  clear hb
  go_enter Tryz.func16, Tryz.ntmps16
  go_wp2_with fail
  go_ret
  exact ⟨rfl,rfl⟩
 ·rw [if_neg (by omega)]
  clear hb h1 h2
  go_enter Tryz.func16, Tryz.ntmps16
  go_wp2_with fail
  go_ret
  exact ⟨rfl,rfl⟩
 ·rw [if_neg (by omega)]
  clear hb h1 h2
  go_enter Tryz.func16, Tryz.ntmps16
  go_wp2_with fail
  go_ret
  exact ⟨rfl,rfl⟩
theorem acG (N u:Nat) (w:World) (h:iV w N u):Calls Tryz.prog 17 #[.pointer (some ⟨N,0,none⟩),.pointer (some ⟨N,0,none⟩)] w (adZ N u w):=by
 have HB:=ah h.blk
 obtain ⟨v,hb,hv⟩:=h
 have c1:w.cell? ⟨N,1,none⟩=some v:=by rw [cell_of_row _ _ _ _ _ _ hb];rfl
 obtain ⟨a0,n0,lS,rfl⟩:=hv.shape
 have HT:=ah (twin_any _ u w hv)
 clear hb hv
 go_enter Tryz.func17, Tryz.ntmps17
 go_wp2_with (first
  | (go_at_call 32;(refine HT.out.mono ?_);rintro e w1 ⟨v,rfl,hv,k1⟩;obtain ⟨a,n,c,rfl⟩:=hv.shape;have V1:=ah hv;have K1:=ah k1;clear hv k1)
  | (go_at_call 31;(refine (zU N a n c w1 (HB.out.kept K1.out (fun h=>h))).mono ?_);rintro e w2 ⟨rfl,hb2,k2⟩;have B2:=ah hb2;have K2:=ah k2;clear hb2 k2))
 go_ret
 have hB1:=HB.out.kept K1.out (fun h=>h)
 exact ⟨rfl,⟨_,B2.out,(V1.out.to (Kept.refl aA w1) (fun b hb=>⟨hb.2,fun h=>h⟩) (fun b hb=>hb.2)).set K2.out (fun M hM=>by rw [hM];exact hB1)⟩,(K1.out.more (fun _ h=>h.elim)).trans K2.out⟩
end Go.Proofs.YtodebjhalipefaaGreatDoor

/-  -/
import Derived.Test.YtefjbnhpjdhjmaaGreatDoorTs2
import Derived.Test.YtefjbnhpjdhjmaaGreatDoorPs25
import Derived.Recover
import Derived.RegionTactic
import Derived.BigRegion
import Derived.Test.YtefjbnhpjdhjmaaGreatDoorTs19
import Derived.Test.YtefjbnhpjdhjmaaGreatDoorTs21
import Derived.Test.YtefjbnhpjdhjmaaGreatDoorTs15
namespace Go.Proofs.YtefjbnhpjdhjmaaGreatDoor
set_option linter.all false
open Go.RowKit
def rZ (s:aj) {α:Type} (f:Nat→Except Er α):Prop:=∀i er,i≤s.size→f i=.error er→er.2≤s.size
theorem sK {c:Nat} {s:aj} {i:Nat} {er:Er} (hi:i≤s.size) (h:dI c s i=.error er):er.2≤s.size:=by
 unfold dI at h
 split at h
 ·cases h
 ·simp only [Except.error.injEq] at h;subst h;exact dG hi
theorem MX {s:aj} {i:Nat} {er:Er} (hi:i≤s.size) (h:gX s i=.error er):er.2≤s.size:=by
 unfold gX at h
 split at h
 ·cases h
 ·simp only [Except.error.injEq] at h;subst h;exact dG hi
theorem Gq {s:aj} {i:Nat} {er:Er} (hi:i≤s.size) (h:nameP s i=.error er):er.2≤s.size:=by
 unfold nameP at h
 split at h
 ·next e he=>simp only [Except.error.injEq] at h;subst h;exact MX hi he
 ·next x a k hw =>
  split at h
  ·simp only [Except.error.injEq] at h;subst h;exact (jZ hi hw).2.2.2.1
  ·cases h
theorem MZ {s:aj} {i:Nat} {er:Er} (hi:i≤s.size) (h:iY s i=.error er):er.2≤s.size:=by
 unfold iY at h
 split at h
 ·next e he=>simp only [Except.error.injEq] at h;subst h;exact sK hi he
 ·next k hk =>
  cases ht:fF (s.data.toList.drop k) with
  | none=>rw [ht] at h;simp only [nN,Except.error.injEq] at h;subst h;exact Nat.le_refl _
  | some x=>obtain ⟨b,n⟩:=x;rw [ht] at h;cases h
theorem abo {s:aj} {k:Nat} (h:DK s k=true):k<s.size:=by
 unfold DK at h
 simp only [Bool.and_eq_true,decide_eq_true_eq] at h
 by_cases hk:k<s.size
 ·exact hk
 ·have:peek s k = -1:=by unfold peek;rw [dif_neg hk]
  omega
theorem JZ {s:aj} {j:Nat} (hj:j≤s.size):∀(f k n:Nat) {er:Er},k≤s.size→oU s j f k n=.error er→er.2≤s.size
 | 0,k,n,er,_,h=>by cases h
 | f+1,k,n,er,hk,h=>by
  rw [oU] at h
  split at h
  ·next hd =>
   have:=abo hd
   split at h
   ·simp only [Except.error.injEq] at h;subst h;exact hk
   ·split at h
    ·simp only [Except.error.injEq] at h;subst h;exact hj
    ·exact JZ hj f _ _ (by omega) h
  ·cases h
theorem aao {s:aj} {i:Nat} {er:Er} (hi:i≤s.size) (h:ny s i=.error er):er.2≤s.size:=by
 unfold ny at h
 split at h
 ·exact JZ (dG hi) _ _ _ (dG hi) h
 ·simp only [Except.error.injEq] at h;subst h;exact dG hi
theorem XE {s:aj} {inner:Nat→cZ aA} (hf:eH s inner) (hb:rZ s inner) {a k:Nat} {kd:Int} {er:Er} (ha:a≤s.size) (hk:k≤s.size) (h:lM inner s a k kd=.error er):er.2≤s.size:=by
 unfold lM at h
 split at h
 ·simp only [Except.error.injEq] at h;subst h;exact ha
 ·split at h
  ·unfold dP at h
   split at h
   ·next e he=>simp only [Except.error.injEq] at h;subst h;exact sK hk he
   ·next k1 hk1 =>
    have h1:=iC hk1
    split at h
    ·next e he=>simp only [Except.error.injEq] at h;subst h;exact MZ h1.2.1 he
    ·next t b k2 ht =>
     have h2:=nO ht
     split at h
     ·simp only [Except.error.injEq] at h;subst h;exact Nat.le_of_lt h2.2.2.2
     ·split at h
      ·next e he=>simp only [Except.error.injEq] at h;subst h;exact sK h2.2.1 he
      ·cases h
  ·split at h
   ·unfold fV at h
    split at h
    ·next e he=>simp only [Except.error.injEq] at h;subst h;exact sK hk he
    ·next k1 hk1 =>
     have h1:=iC hk1
     split at h
     ·next e he=>simp only [Except.error.injEq] at h;subst h;exact aao h1.2.1 he
     ·next n k2 ht =>
      have h2:=zG h1.2.1 ht
      split at h
      ·next e he=>simp only [Except.error.injEq] at h;subst h;exact sK h2.2.1 he
      ·cases h
   ·split at h
    ·unfold qp at h
     split at h
     ·next e he=>simp only [Except.error.injEq] at h;subst h;exact sK hk he
     ·next k1 hk1 =>
      have h1:=iC hk1
      split at h
      ·next e he=>simp only [Except.error.injEq] at h;subst h;exact hb _ _ h1.2.1 he
      ·next p k2 ht =>
       have h2:=hf _ _ _ h1.2.1 ht
       split at h
       ·next e he=>simp only [Except.error.injEq] at h;subst h;exact sK h2.2 he
       ·cases h
    ·cases h
theorem Uw {s:aj} {j:Nat} {kd:Int} {er:Er} (hj:j≤s.size) (h:yE s j kd=.error er):er.2≤s.size:=by
 unfold yE at h
 split at h
 ·next e he=>simp only [Except.error.injEq] at h;subst h;exact Gq hj he
 ·cases h
theorem Qr {s:aj} {i:Nat} (h:0≤peek s i):i<s.size:=by
 by_cases hk:i<s.size
 ·exact hk
 ·have:peek s i = -1:=by unfold peek;rw [dif_neg hk]
  omega
theorem PK {s:aj} {inner:Nat→cZ aA} (hf:eH s inner) (hb:rZ s inner):rZ s (aH inner s):=by
 intro i er hi h
 have h1:=dG hi
 unfold aH at h
 split at h
 ·unfold DL at h
  split at h
  ·next e he=>simp only [Except.error.injEq] at h;subst h;exact MZ h1 he
  ·cases h
 ·split at h
  ·next hp=>have:=Qr (s:=s) (i:=skip s i) (by omega);exact Uw (by omega) h
  ·split at h
   ·next hp=>have:=Qr (s:=s) (i:=skip s i) (by omega);exact Uw (by omega) h
   ·unfold oq at h
    split at h
    ·next e he=>simp only [Except.error.injEq] at h;subst h;exact MX h1 he
    ·next x a k hw =>
     have h2:=jZ h1 hw
     exact XE hf hb h2.2.2.2.1 h2.2.1 h
theorem DN {s:aj}:∀(f:Nat) (p:aA) (k:Nat) {er:Er},k≤s.size→jA s f p k=.error er→er.2≤s.size
 | 0,p,k,er,_,h=>by cases h
 | f+1,p,k,er,hk,h=>by
  rw [jA] at h
  have h1:=(lN (c:=46) hk).1
  have h2:=(lN (c:=36) h1).1
  split at h
  ·split at h
   ·next e he=>simp only [Except.error.injEq] at h;subst h;exact Gq h1 he
   ·next nm k1 hn=>exact DN f _ _ (qw h1 hn).2 h
  ·split at h
   ·split at h
    ·next e he=>simp only [Except.error.injEq] at h;subst h;exact Gq h2 he
    ·next nm k1 hn=>exact DN f _ _ (qw h2 hn).2 h
   ·cases h
theorem XF {s:aj} {inner:Nat→cZ aA} (hf:eH s inner) (hb:rZ s inner):rZ s (lQ inner s):=by
 intro i er hi h
 have h1:=(lN (c:=40) hi).1
 unfold lQ at h
 split at h
 ·split at h
  ·next e he=>simp only [Except.error.injEq] at h;subst h;exact hb _ _ h1 he
  ·next p k hp =>
   have h2:=hf _ _ _ h1 hp
   split at h
   ·next e he=>simp only [Except.error.injEq] at h;subst h;exact sK h2.2 he
   ·cases h
 ·exact PK hf hb _ _ h1 h
theorem Na {s:aj} {inner:Nat→cZ aA} (hf:eH s inner) (hb:rZ s inner):rZ s (iZ inner s):=by
 intro i er hi h
 unfold iZ at h
 split at h
 ·next e he=>simp only [Except.error.injEq] at h;subst h;exact XF hf hb _ _ hi he
 ·next p k hp=>exact DN _ _ _ (Gs hf hi hp).2 h
theorem J5 {s:aj} {inner:Nat→cZ aA} (hf:eH s inner) (hb:rZ s inner):∀(f:Nat) (l:List aA) (k:Nat) {er:Er},k≤s.size→pG inner s f l k=.error er→er.2≤s.size
 | 0,l,k,er,_,h=>by cases h
 | f+1,l,k,er,hk,h=>by
  rw [pG] at h
  split at h
  ·split at h
   ·next e he=>simp only [Except.error.injEq] at h;subst h;exact Na hf hb _ _ (dG hk) he
   ·next p k1 hp=>exact J5 hf hb f _ _ (uJ hf _ _ _ (dG hk) hp).2 h
  ·cases h
theorem Qs {s:aj} {inner:Nat→cZ aA} (hf:eH s inner) (hb:rZ s inner):rZ s (kJ inner s):=by
 intro i er hi h
 unfold kJ at h
 split at h
 ·next e he=>simp only [Except.error.injEq] at h;subst h;exact Na hf hb _ _ hi he
 ·next p k hp=>exact J5 hf hb _ _ _ (uJ hf _ _ _ hi hp).2 h
theorem J6 {s:aj} {inner:Nat→cZ aA} (hf:eH s inner) (hb:rZ s inner):∀(f:Nat) (l:List aA) (k:Nat) {er:Er},k≤s.size→pI inner s f l k=.error er→er.2≤s.size
 | 0,l,k,er,_,h=>by cases h
 | f+1,l,k,er,hk,h=>by
  rw [pI] at h
  have h1:=(lN (c:=124) hk).1
  split at h
  ·split at h
   ·next e he=>simp only [Except.error.injEq] at h;subst h;exact Qs hf hb _ _ h1 he
   ·next p k1 hp=>exact J6 hf hb f _ _ (wR hf _ _ _ h1 hp).2 h
  ·cases h
theorem Qu {s:aj} {inner:Nat→cZ aA} (hf:eH s inner) (hb:rZ s inner):rZ s (lS inner s):=by
 intro i er hi h
 unfold lS at h
 split at h
 ·next e he=>simp only [Except.error.injEq] at h;subst h;exact Qs hf hb _ _ hi he
 ·next p k hp=>exact J6 hf hb _ _ _ (wR hf _ _ _ hi hp).2 h
theorem Ko (s:aj):∀m,rZ s (eY s m)
 | 0=>fun i er hi h=>by simp only [eY,Except.error.injEq] at h;subst h;exact hi
 | m+1=>fun i er hi h=>Qu (oG s m) (Ko s m) i er hi h
theorem Rl (s:aj):(nP s).2.2≤s.size:=by
 unfold nP
 cases h:mV s with
 | ok p=>exact Nat.zero_le _
 | error er =>
  show er.2≤s.size
  unfold mV at h
  split at h
  ·simp only [Except.error.injEq] at h;subst h;exact Nat.zero_le _
  ·split at h
   ·next e he=>simp only [Except.error.injEq] at h;subst h;exact Qu (oG s 200) (Ko s 200) _ _ (Nat.zero_le _) he
   ·next p k hp =>
    have h2:=Jw (oG s 200) _ _ _ (Nat.zero_le _) hp
    split at h
    ·simp only [Except.error.injEq] at h;subst h;exact dG h2.2
    ·split at h
     ·cases h
     ·simp only [Except.error.injEq] at h;subst h;exact Nat.zero_le _
end Go.Proofs.YtefjbnhpjdhjmaaGreatDoor

namespace Go.Proofs.YtefjbnhpjdhjmaaGreatDoor
set_option linter.all false
open Go.RowKit
theorem La {f:UInt8→Bool} {c:UInt8}:∀{l:List UInt8},c∈l.takeWhile f→f c=true
 | [],h=>by cases h
 | x::r,h=>by
  rw [List.takeWhile_cons] at h
  split at h
  ·rcases List.mem_cons.1 h with rfl|h
   ·assumption
   ·exact La h
  ·cases h
theorem RU {s:aj} {i:Nat}:∀c∈(s.extract i (dn dL s i)).data.toList,48≤c.toNat∧c.toNat≤57:=by
 intro c hc
 have e:(s.extract i (dn dL s i)).data.toList=(s.data.toList.drop i).takeWhile dL:=by
  unfold dn
  rw [zM]
  exact (List.prefix_iff_eq_take.1 (List.takeWhile_prefix _)).symm
 rw [e] at hc
 have:=La hc
 rw [Lc] at this
 simpa using this
theorem FQ {s:aj} {i k:Nat} (h:i<k) (hk:k≤s.size):(s.extract i k).size≠0:=by
 rw [ByteArray.size_extract];omega
theorem NY {s:aj} (hs:s.size≤2000) {i:Nat} {h:i<s.size} {t:aF} {k:Nat} (e:dR s i h=.tok t k):t.at_≤1000000∧t.text.size≤1000000∧(nP t.text).2.2≤1000000∧(t.kind=2→t.text.size≠0∧∀c∈t.text.data.toList,48≤c.toNat∧c.toNat≤57)∧(t.kind=1→t.text.size≠0):=by
 obtain ⟨h1,h2,h3,h4⟩:=qB e
 refine ⟨by omega,by omega,by have:=Rl t.text;omega,?_,?_⟩
 all_goals
  intro hk
  unfold dR at e
  split at e
  ·cases e
  split at e
  ·simp only [qm.tok.injEq] at e
   obtain ⟨rfl,rfl⟩:=e
   first|(simp at hk;done)|exact FQ h1 h2
  split at e
  ·simp only [qm.tok.injEq] at e
   obtain ⟨rfl,rfl⟩:=e
   first|(simp at hk;done)|exact ⟨FQ h1 h2,RU⟩
  split at e
  ·split at e
   ·cases e
   ·simp only [qm.tok.injEq] at e;obtain ⟨rfl,rfl⟩:=e;simp at hk
  split at e
  ·split at e
   ·cases e
   ·simp only [qm.tok.injEq] at e;obtain ⟨rfl,rfl⟩:=e;simp at hk
  split at e
  ·simp only [qm.tok.injEq] at e;obtain ⟨rfl,rfl⟩:=e;simp at hk
  split at e
  ·simp only [qm.tok.injEq] at e;obtain ⟨rfl,rfl⟩:=e;simp at hk
  ·cases e
theorem CJ {s:aj} (hs:s.size≤2000):∀(f i:Nat) (out l:List aF),pJ s f i out=.ok l→rV out→out.length≤i→i≤s.size→rV l∧l.length≤s.size
 | 0,i,out,l,h,hb,hl,hi=>by
  simp only [pJ,Except.ok.injEq] at h;subst h;exact ⟨hb,by omega⟩
 | f+1,i,out,l,h,hb,hl,hi=>by
  rw [pJ] at h
  split at h
  ·next hi2 =>
   split at h
   ·exact CJ hs f _ _ _ h hb (by omega) (by omega)
   ·next t k e =>
    obtain ⟨h1,h2,_,_⟩:=qB e
    refine CJ hs f _ _ _ h ?_ (by simp;omega) h2
    intro u hu
    rcases List.mem_append.1 hu with hu|hu
    ·exact hb u hu
    ·rw [List.mem_singleton.1 hu];exact NY hs e
   ·cases h
  ·simp only [Except.ok.injEq] at h;subst h;exact ⟨hb,by omega⟩
theorem Ei {s:aj} {l:List aF} (h:nH s=.ok l):rV l∧l.length≤2000∧s.size≤2000:=by
 unfold nH wX at h
 split at h
 ·cases h
 ·obtain ⟨a,b⟩:=CJ (by omega) _ _ _ _ h (fun u hu=>by cases hu) (Nat.zero_le _) (Nat.zero_le _)
  exact ⟨a,by omega,by omega⟩
end Go.Proofs.YtefjbnhpjdhjmaaGreatDoor

namespace Go.Proofs.YtefjbnhpjdhjmaaGreatDoor
set_option linter.all false
open Go.RowKit
def zN (er:Er):Value:=.agg #[.int .i64 er.1,.int .i64 er.2]
def Fe (s:aj) (w:World) (e:Ending) (w':World):Prop :=
 Kept aC w w'∧match kP s with
  | .ok none=>e=.returned (.tuple #[bV nilA dU,.bool false,zN (0,0)])
  | .ok (some st)=>∃a S,e=.returned (.tuple #[bV a st,.bool true,zN (0,0)])∧nX st∧uM w' S a st∧∀b,S b→w.heap.size≤b∧b<w'.heap.size
  | .error er=>e=.returned (.tuple #[bV nilA dU,.bool false,zN er])
structure ji (A B C:Nat) (a:ig) (s:aN) (v c0 c1:Value) (w:World):Prop where
 st:dF A a s w
 bo:gG w B 4 v
 fl:Two C c0 c1 w
theorem ji.kept {A B C:Nat} {a:ig} {s:aN} {v c0 c1:Value} {w w2:World} {X:Nat→Prop} (h:ji A B C a s v c0 c1 w) (hk:Kept X w w2) (hx:¬X A∧¬X B∧¬X C):ji A B C a s v c0 c1 w2 :=
 ⟨h.st.kept hk hx.1,by unfold gG;rw [hk.block B h.bo.lt hx.2.1];exact h.bo,h.fl.kept hk hx.2.2⟩
theorem ji.drew {A B C:Nat} {a:ig} {s:aN} {v c0 c1:Value} {w:World} (h:ji A B C a s v c0 c1 w):ji A B C a s v c0 c1 w.drew:=h.kept (Kept.refl aC w).drew ⟨fun h=>h,fun h=>h,fun h=>h⟩
theorem ji.setB {A B C:Nat} {a:ig} {s:aN} {v c0 c1:Value} {w:World} (h:ji A B C a s v c0 c1 w) (hne:A≠B∧A≠C∧B≠C) (v2:Value):ji A B C a s v2 c0 c1 (w.setCell ⟨B,0,none⟩ v2):=by
 have k:Kept (· = B) w (w.setCell ⟨B,0,none⟩ v2):=(Kept.refl (· = B) w).setCell (p:=⟨B,0,none⟩) (.inl rfl) _
 exact ⟨h.st.kept k hne.1,h.bo.set v2,h.fl.kept k (fun e=>hne.2.2 e.symm)⟩
theorem ji.CO {A B C:Nat} {a:ig} {s:aN} {v c0 c1:Value} {w:World} (h:ji A B C a s v c0 c1 w) (hne:A≠B∧A≠C∧B≠C) (d0 d1:Value):ji A B C a s v d0 d1 ((w.setCell ⟨C,0,none⟩ d0).setCell ⟨C,1,none⟩ d1):=by
 have k:Kept (· = C) w ((w.setCell ⟨C,0,none⟩ d0).setCell ⟨C,1,none⟩ d1):=((Kept.refl (· = C) w).setCell (p:=⟨C,0,none⟩) (.inl rfl) _).setCell (p:=⟨C,1,none⟩) (.inl rfl) _
 exact ⟨h.st.kept k hne.2.1,by unfold gG;rw [k.block B h.bo.lt hne.2.2];exact h.bo,by have:=h.fl.set2 d0 d1;exact this⟩
theorem ji.JI {A B C:Nat} {a a2:ig} {s s2:aN} {v c0 c1:Value} {w w2:World} (h:ji A B C a s v c0 c1 w) (hne:A≠B∧A≠C∧B≠C) (hk:Kept (· = A) w w2) (hB:dF A a2 s2 w2):ji A B C a2 s2 v c0 c1 w2 :=
 ⟨hB,by unfold gG;rw [hk.block B h.bo.lt (fun e=>hne.1 e.symm)];exact h.bo,h.fl.kept hk (fun e=>hne.2.1 e.symm)⟩
def sV (A B C:Nat) (w:World):Prop:=∃a s v c0 c1,ji A B C a s v c0 c1 w
section
variable {A B C:Nat} {w:World}
theorem sV.kept {w2:World} {X:Nat→Prop} (h:sV A B C w) (hk:Kept X w w2) (hx:¬X A∧¬X B∧¬X C):sV A B C w2:=by
 obtain ⟨a,s,v,c0,c1,h⟩:=h;exact ⟨_,_,_,_,_,h.kept hk hx⟩
theorem NZ (h:sV A B C w):sV A B C w.drew:=h.kept (Kept.refl aC w).drew ⟨fun h=>h,fun h=>h,fun h=>h⟩
theorem ZP (hne:A≠B∧A≠C∧B≠C) {v2:Value} (h:sV A B C w):sV A B C (w.setCell ⟨B,0,none⟩ v2):=by
 obtain ⟨a,s,v,c0,c1,h⟩:=h;exact ⟨_,_,_,_,_,h.setB hne v2⟩
theorem Vh (hne:A≠B∧A≠C∧B≠C) {d:Value} (h:sV A B C w):sV A B C (w.setCell ⟨C,0,none⟩ d):=by
 obtain ⟨a,s,v,c0,c1,h⟩:=h
 have k:Kept (· = C) w (w.setCell ⟨C,0,none⟩ d):=(Kept.refl (· = C) w).setCell (p:=⟨C,0,none⟩) (.inl rfl) _
 have hf:=h.fl
 refine ⟨_,_,_,d,c1,h.st.kept k hne.2.1,by unfold gG;rw [k.block B h.bo.lt hne.2.2];exact h.bo,?_⟩
 unfold Two at hf⊢;rw [aK hf _];rfl
theorem Vj (hne:A≠B∧A≠C∧B≠C) {d:Value} (h:sV A B C w):sV A B C (w.setCell ⟨C,1,none⟩ d):=by
 obtain ⟨a,s,v,c0,c1,h⟩:=h
 have k:Kept (· = C) w (w.setCell ⟨C,1,none⟩ d):=(Kept.refl (· = C) w).setCell (p:=⟨C,1,none⟩) (.inl rfl) _
 have hf:=h.fl
 refine ⟨_,_,_,c0,d,h.st.kept k hne.2.1,by unfold gG;rw [k.block B h.bo.lt hne.2.2];exact h.bo,?_⟩
 unfold Two at hf⊢;rw [aK hf _];rfl
theorem QH {v:Value} (h:sV A B C w):gG (w.setCell ⟨B,0,none⟩ v) B 4 v:=by obtain ⟨a,s,v0,c0,c1,h⟩:=h;exact h.bo.set v
theorem MK (hne:A≠B∧A≠C∧B≠C) {v d:Value} {i:Nat} (h:gG w B 4 v):gG (w.setCell ⟨C,i,none⟩ d) B 4 v:=by
 have k:Kept (· = C) w (w.setCell ⟨C,i,none⟩ d):=(Kept.refl (· = C) w).setCell (p:=⟨C,i,none⟩) (.inl rfl) _
 unfold gG;rw [k.block B h.lt hne.2.2];exact h
theorem QI {d0 d1:Value} (h:sV A B C w):Two C d0 d1 ((w.setCell ⟨C,0,none⟩ d0).setCell ⟨C,1,none⟩ d1):=by obtain ⟨a,s,v0,c0,c1,h⟩:=h;have:=h.fl.set2 d0 d1;exact this
theorem ZQ (hne:A≠B∧A≠C∧B≠C) {c0 c1 d:Value} (h:Two C c0 c1 w):Two C c0 c1 (w.setCell ⟨B,0,none⟩ d) :=
 h.kept ((Kept.refl (· = B) w).setCell (p:=⟨B,0,none⟩) (.inl rfl) d) (fun e=>hne.2.2 e.symm)
theorem ab5 (hne:A≠B∧A≠C∧B≠C) {a:ig} {s:aN} {d:Value} (h:dF A a s w):dF A a s (w.setCell ⟨B,0,none⟩ d) :=
 h.kept ((Kept.refl (· = B) w).setCell (p:=⟨B,0,none⟩) (.inl rfl) d) hne.1
theorem RV (hne:A≠B∧A≠C∧B≠C) {a:ig} {s:aN} {d:Value} {i:Nat} (h:dF A a s w):dF A a s (w.setCell ⟨C,i,none⟩ d) :=
 h.kept ((Kept.refl (· = C) w).setCell (p:=⟨C,i,none⟩) (.inl rfl) d) hne.2.1
theorem sV.cells (h:sV A B C w):(∃v,w.cell? ⟨B,0,none⟩=some v)∧w.frozen? ⟨B,0,none⟩=false∧(∃v,w.cell? ⟨C,0,none⟩=some v)∧(∃v,w.cell? ⟨C,1,none⟩=some v)∧w.frozen? ⟨C,0,none⟩=false∧w.frozen? ⟨C,1,none⟩=false:=by
 obtain ⟨a,s,v0,c0,c1,h⟩:=h
 obtain ⟨x0,x1,xf⟩:=h.fl.cells
 exact ⟨⟨_,h.bo.cell⟩,h.bo.free,⟨_,x0⟩,⟨_,x1⟩,xf 0,xf 1⟩
def oW (A B C:Nat) (b:Nat):Prop:=b=A∨b=B∨b=C
theorem N9 {w0:World} {d:Value} (h:Kept (oW A B C) w0 w):Kept (oW A B C) w0 (w.setCell ⟨B,0,none⟩ d):=h.setCell (p:=⟨B,0,none⟩) (.inl (.inr (.inl rfl))) _
theorem qC {w0:World} {d:Value} {i:Nat} (h:Kept (oW A B C) w0 w):Kept (oW A B C) w0 (w.setCell ⟨C,i,none⟩ d):=h.setCell (p:=⟨C,i,none⟩) (.inl (.inr (.inr rfl))) _
end
theorem qE {f:Func} {tmps:Array Value} (hres:f.results = #[.cell 2 30,.cell 3 4,.cell 4 36]) {A B C:Nat} (h2:tmps.getD 2 undef=.pointer (some ⟨A,0,none⟩)) (h3:tmps.getD 3 undef=.pointer (some ⟨B,0,none⟩)) (h4:tmps.getD 4 undef=.pointer (some ⟨C,0,none⟩))
  {a:ig} {s:aN} {v c0 c1:Value} {w:World} (h:ji A B C a s v c0 c1 w):(results f tmps).run Tryz.prog w=.ok (.tuple #[bV a s,v,.agg #[c0,c1]]) w:=by
 have ht2:tmps[2]?.getD undef=.pointer (some ⟨A,0,none⟩):=by rw [←h2,Array.getD_eq_getD_getElem?]
 have ht3:tmps[3]?.getD undef=.pointer (some ⟨B,0,none⟩):=by rw [←h3,Array.getD_eq_getD_getElem?]
 have ht4:tmps[4]?.getD undef=.pointer (some ⟨C,0,none⟩):=by rw [←h4,Array.getD_eq_getD_getElem?]
 have e1:=KX h.st
 have e2:(loadVar 4 ⟨B,0,none⟩).run Tryz.prog w=.ok v w:=by have:=h.bo.cell;simp [go_sem,this]
 have e3:(loadVar 36 ⟨C,0,none⟩).run Tryz.prog w=.ok (.agg #[c0,c1]) w:=by obtain ⟨x0,x1,_⟩:=h.fl.cells;simp [go_sem,x0,x1]
 simp [results,hres,ht2,ht3,ht4,asAddr,e1,e2,e3,Sem.run_bind,Sem.run_pure,Result.andThen_ok]
end Go.Proofs.YtefjbnhpjdhjmaaGreatDoor

namespace Go.Proofs.YtefjbnhpjdhjmaaGreatDoor
set_option linter.all false
open Go.RowKit Go.Deep
set_option maxRecDepth 100000
set_option maxHeartbeats 1000000
def ML (w:World) (S:Nat→Prop) (b o:Nat) (s:aN):Prop :=
 ∃a,UD a s∧S b∧nX s∧(∀i (h:i<24),w.cell? ⟨b,o+i,none⟩=some ((aV a s)[i]'(by simpa [aV] using h)))∧lH w S a s
theorem ML.to {w w':World} {S S':Nat→Prop} {X:Nat→Prop} {b o:Nat} {s:aN} (h:ML w S b o s) (hk:Kept X w w') (hs:Safe S X w.heap.size) (h':∀b,S b→S' b):ML w' S' b o s:=by
 obtain ⟨a,hx,hb,hz,hc,ho⟩:=h
 exact ⟨a,hx,h' b hb,hz,fun i hi=>(hk.cell (hs b hb).1 (hs b hb).2).trans (hc i hi),ho.to hk hs h'⟩
def AZ (w:World) (S:Nat→Prop) (a:Option Addr) (l:List aN):Prop:=0<l.length→∃b o,a=some ⟨b,o,none⟩∧∀i (h:i<l.length),ML w S b (o+i*24) l[i]
theorem AZ.to {w w':World} {S S':Nat→Prop} {X:Nat→Prop} {a:Option Addr} {l:List aN} (h:AZ w S a l) (hk:Kept X w w') (hs:Safe S X w.heap.size) (h':∀b,S b→S' b):AZ w' S' a l:=by
 intro h0
 obtain ⟨b,o,rfl,hc⟩:=h h0
 exact ⟨b,o,rfl,fun i hi=>(hc i hi).to hk hs h'⟩
section
variable {H:Type} {enc:TypeId×Value→H} {w:World} {spare:Nat→Bool} {held:Bool}
theorem OJ (S:Nat→Prop) (b:Nat):∀(len o:Nat) (B:Nat→Nat),(∀i,i<len→∃p,dH w S b (o+i*5) p∧sizeT p≤B i∧vS p)→
  ∃l:List aA,l.length=len∧aI w S (some ⟨b,o,none⟩) l∧aS l≤((List.range len).map B).sum∧Oi l
 | 0,o,B,_=>⟨[],rfl,by unfold aI;trivial,by simp [aS],fun x hx=>by simp [allL] at hx⟩
 | len+1,o,B,h=>by
  obtain ⟨p,hp,hs,hn⟩:=h 0 (by omega)
  obtain ⟨l,hl,hk,hsl,hnl⟩:=OJ S b len (o+5) (fun i=>B (i+1)) (fun i hi=>by
   obtain ⟨q,hq,hqs,hqn⟩:=h (i+1) (by omega)
   exact ⟨q,by rw [show o+5+i*5=o+(i+1)*5 by omega];exact hq,hqs,hqn⟩)
  refine ⟨p::l,by simp [hl],?_,?_,?_⟩
  ·unfold aI;exact ⟨b,o,rfl,by simpa using hp,hk⟩
  ·rw [aS,List.range_succ_eq_map,List.map_cons,List.sum_cons,List.map_map]
   exact Nat.add_le_add hs hsl
  ·intro x hx
   rw [allL] at hx
   rcases List.mem_append.1 hx with h|h
   ·exact hn x h
   ·exact hnl x h
theorem Ja:∀(N:Nat),N≤1048576→∀(fuel:Nat) (cs:List Value) (x:DataW H×List MemPlace),DataW.trod enc Tryz.prog w 0 spare held fuel 24 cs=some x→Rows.uptoBulk x.1≤N→
  ∃p ka cap,cs=[.int .i64 (aA.kind p),.string p.text,.int .i64 p.n,.string p.name,.slice ka p.kids.length cap]∧(p.text.size<1000000000∧p.name.size<1000000000∧p.kids.length<1000000000)∧aI w (· < w.heap.size) ka p.kids∧sizeT p≤Rows.uptoBulk x.1∧vS p:=by
 intro N
 induction N with
 | zero=>intro _ fuel cs x h hb;have:=AX x.1;omega
 | succ N ih =>
 intro hN fuel cs x h hb
 obtain ⟨xs,n,rfl,rfl,hlen,hxs,hf⟩:=DataW.trod_struct Tryz.underlying24 h
 have hcs:cs.length=5:=hlen
 match cs,hcs with
 | [v0,v1,v2,v3,v4],_ =>
 match xs,hxs with
 | [x0,x1,x2,x3,x4],_ =>
 have h0:=hf 0 _ rfl;have h1:=hf 1 _ rfl;have h2:=hf 2 _ rfl;have h3:=hf 3 _ rfl;have h4:=hf 4 _ rfl
 obtain ⟨k,e0,r0,_⟩:=DataW.trod_int (cs:=[v0]) (x:=x0) Tryz.underlying3 h0
 obtain ⟨t,e1,r1,_⟩:=DataW.trod_string (cs:=[v1]) (x:=x1) Tryz.underlying9 h1
 obtain ⟨nn,e2,r2,hwf⟩:=DataW.trod_int (cs:=[v2]) (x:=x2) Tryz.underlying2 h2
 obtain ⟨nm,e3,r3,_⟩:=DataW.trod_string (cs:=[v3]) (x:=x3) Tryz.underlying9 h3
 simp only [List.cons.injEq,and_true] at e0 e1 e2 e3
 subst e0 e1 e2 e3 r0 r1 r2 r3
 simp only [List.map_cons,List.map_nil,Rows.uptoBulk,Rows.uptoBulkAll] at hb⊢
 have hnn:nn≤9223372036854775807:=by simp only [Lit.wf,Bool.and_eq_true,decide_eq_true_eq] at hwf;exact hwf.2
 have zt:t.data.toList.length=t.size:=rfl
 have zn:nm.data.toList.length=nm.size:=rfl
 rw [zt,zn] at hb⊢
 rcases open_slice (cs:=[v4]) (x:=x4) Tryz.underlying22 h4 with ⟨e4,r4⟩|⟨a,len,cap,m,n',D,Pl,e4,_,hlc,hcm,hm,r4,hel⟩
 ·simp only [List.cons.injEq,and_true] at e4;subst e4 r4
  refine ⟨.mk k t nn nm [],none,0,rfl,⟨?_,?_,by simp⟩,by unfold aI;trivial,by simp only [sizeT,aS];omega,?_⟩
  ·rw [aA.aW];omega
  ·rw [aA.aX];omega
  ·intro x hx
   simp only [allT,allL,List.mem_singleton] at hx
   subst hx;exact hnn
 ·simp only [List.cons.injEq,and_true] at e4;subst e4
  rw [r4] at hb⊢
  simp only [Rows.uptoBulk] at hb⊢
  have hlm:len≤m:=by rw [hm];split<;>omega
  have hbl:=qG ((List.range len).map D)
  rw [List.length_map,List.length_range] at hbl
  have hsum:=CS D (List.range len)
  have hfin:∃l:List aA,l.length=len∧aI w (· < w.heap.size) (some a) l∧aS l≤Rows.uptoBulkAll ((List.range len).map D)∧Oi l:=by
   cases len with
   | zero=>exact ⟨[],rfl,by unfold aI;trivial,by simp [aS],fun x hx=>by simp [allL] at hx⟩
   | succ len =>
    obtain ⟨cs0,hc0,_⟩:=hel 0 (by omega)
    have hc0':=(World.cells?_some hc0).2.2 0 (by decide)
    have hl0:=(World.cells?_some hc0).2.1
    obtain ⟨b,o,spot⟩:=a
    have hspot:spot=none:=by
     have hx:∃u,w.cell? ((⟨b,o,spot⟩:Addr).add (0*Tryz.prog.cellsOf 24))=some u:=by
      have:0<cs0.length:=by rw [hl0];decide
      exact ⟨cs0[0],by simpa [Addr.add,List.getElem?_eq_getElem this] using hc0'⟩
     obtain ⟨u,hu⟩:=hx
     simpa [Addr.add] using World.cell?_spot hu
    subst hspot
    obtain ⟨l,hl,hk,hs,hnl⟩:=OJ (w:=w) (· < w.heap.size) b (len+1) o (fun i=>Rows.uptoBulk (D i)) (fun i hi=>by
     obtain ⟨cs',hc,ht⟩:=hel i (by omega)
     have hbi:Rows.uptoBulk (D i)≤Rows.uptoBulkAll ((List.range (len+1)).map D):=by
      rw [←hsum];exact yR (fun i=>Rows.uptoBulk (D i)) _ i (List.mem_range.2 hi)
     obtain ⟨p,ka,cp,rfl,hz,hkk,hsz,hnp⟩:=ih (by omega) n' cs' _ ht (by simp only;omega)
     obtain ⟨_,_,hcell⟩:=World.cells?_some hc
     have ea:∀j,((⟨b,o,none⟩:Addr).add (i*Tryz.prog.cellsOf 24)).add j=⟨b,o+i*5+j,none⟩:=by
      intro j
      have e5:Tryz.prog.cellsOf 24=5:=by kernel_rfl
      rw [e5];unfold Addr.add;split<;>split<;>simp_all<;>omega
     have c0:=hcell 0 (by decide);have c1:=hcell 1 (by decide);have c2:=hcell 2 (by decide);have c3:=hcell 3 (by decide);have c4:=hcell 4 (by decide)
     rw [ea] at c0 c1 c2 c3 c4
     refine ⟨p,?_,hsz,hnp⟩
     obtain ⟨k,t,nn,nm,kids⟩:=p
     unfold dH
     exact ⟨cells_lt c0,hz,c0,c1,c2,c3,ka,cp,c4,hkk⟩)
    exact ⟨l,hl,hk,by rw [←hsum];exact hs,hnl⟩
  obtain ⟨l,rfl,hk,hs,hnl⟩:=hfin
  refine ⟨.mk k t nn nm l,some a,cap,rfl,⟨?_,?_,?_⟩,hk,?_,?_⟩
  ·rw [aA.aW];omega
  ·rw [aA.aX];omega
  ·rw [aA.aU];omega
  ·simp only [sizeT];omega
  ·intro x hx
   rw [allT] at hx
   rcases List.mem_cons.1 hx with rfl|h
   ·exact hnn
   ·exact hnl x h
theorem Jb {fuel:Nat} {v:Value} {x:DataW H×List MemPlace} (h:DataW.trod enc Tryz.prog w 0 spare held fuel 28 [v]=some x) (hb:Rows.uptoBulk x.1≤1048576) :
  ∃(l:List aj) (a:Option Addr) (cap:Nat),v=.slice a l.length cap∧l.length≤cap∧nD w (· < w.heap.size) a l∧l.length<1000000000∧∀y∈l,y.size<1000000000:=by
 rcases open_slice (cs:=[v]) (x:=x) Tryz.underlying28 h with ⟨e4,r4⟩|⟨a,len,cap,m,n',D,Pl,e4,_,hlc,hcm,hm,r4,hel⟩
 ·simp only [List.cons.injEq,and_true] at e4;subst e4
  exact ⟨[],none,0,rfl,Nat.le_refl _,fun h=>by simp at h,by simp,fun y hy=>by simp at hy⟩
 ·simp only [List.cons.injEq,and_true] at e4;subst e4
  rw [r4] at hb
  simp only [Rows.uptoBulk] at hb
  have hlm:len≤m:=by rw [hm];split<;>omega
  have hbl:=qG ((List.range len).map D)
  rw [List.length_map,List.length_range] at hbl
  have each:∀i,i<len→∃s:aj,w.cell? (a.add i)=some (.string s)∧s.size<1000000000:=by
   intro i hi
   obtain ⟨cs',hc,ht⟩:=hel i (by omega)
   obtain ⟨s,rfl,hs,_⟩:=DataW.trod_string Tryz.underlying9 ht
   have hbi:=Ol D len i hi
   have e1:D i=.lit (.string s.data.toList):=congrArg Prod.fst hs
   rw [e1,xH] at hbi
   have hce:Tryz.prog.cellsOf 9=1:=by kernel_rfl
   have h0:=(World.cells?_some hc).2.2
   rw [hce,Nat.mul_one] at h0
   have h0:=h0 0 (by decide)
   have e2:(a.add i).add 0=a.add i:=by unfold Addr.add;split<;>split<;>simp_all
   rw [e2] at h0
   exact ⟨s,h0,by omega⟩
  let g:Nat→aj:=fun i=>if h:i<len then (each i h).choose else ⟨#[]⟩
  have hg:∀i,i<len→w.cell? (a.add i)=some (.string (g i))∧(g i).size<1000000000:=by
   intro i hi
   have:=(each i hi).choose_spec
   simp only [g,dif_pos hi];exact this
  refine ⟨(List.range len).map g,some a,cap,by simp,by rw [List.length_map,List.length_range];exact hlc,fun h0=>?_,by rw [List.length_map,List.length_range];omega,fun y hy=>?_⟩
  ·rw [List.length_map,List.length_range] at h0
   obtain ⟨b,o,spot⟩:=a
   have h1:=(hg 0 h0).1
   have hspot:spot=none:=World.cell?_spot (by simpa [Addr.add] using h1)
   subst hspot
   refine ⟨b,o,rfl,cells_lt (by simpa [Addr.add] using h1),fun i hi=>?_⟩
   rw [List.length_map,List.length_range] at hi
   have:=(hg i hi).1
   rw [List.getElem_map,List.getElem_range]
   have e:(⟨b,o,none⟩:Addr).add i=⟨b,o+i,none⟩:=by unfold Addr.add;split<;>simp_all
   rw [←e];exact this
  ·obtain ⟨i,hi,rfl⟩:=List.mem_map.1 hy
   exact (hg i (List.mem_range.1 hi)).2
theorem YS {fuel:Nat} {cs:List Value} {x:DataW H×List MemPlace} (h:DataW.trod enc Tryz.prog w 0 spare held fuel 30 cs=some x) (hb:Rows.uptoBulk x.1≤1048576) :
  ∃(s:aN) (a:ig),cs=aV a s∧nX s∧lH w (· < w.heap.size) a s∧UD a s:=by
 obtain ⟨xs,n,rfl,rfl,hlen,hxs,hf⟩:=DataW.trod_struct Tryz.underlying30 h
 have hcs:cs.length=24:=hlen
 match cs,hcs with
 | [v0,v1,v2,v3,v4,v5,v6,v7,v8,v9,v10,v11,v12,v13,v14,v15,v16,v17,v18,v19,v20,v21,v22,v23],_ =>
 match xs,hxs with
 | [x0,x1,x2,x3,x4,x5,x6,x7,x8,x9,x10,x11],_ =>
 simp only [List.map_cons,List.map_nil,Rows.uptoBulk,Rows.uptoBulkAll] at hb
 have h0:=hf 0 _ rfl;have h1:=hf 1 _ rfl;have h2:=hf 2 _ rfl;have h3:=hf 3 _ rfl;have h4:=hf 4 _ rfl;have h5:=hf 5 _ rfl
 have h6:=hf 6 _ rfl;have h7:=hf 7 _ rfl;have h8:=hf 8 _ rfl;have h9:=hf 9 _ rfl;have h10:=hf 10 _ rfl;have h11:=hf 11 _ rfl
 obtain ⟨s0,e0,r0,_⟩:=DataW.trod_string (cs:=[v0]) (x:=x0) Tryz.underlying9 h0
 obtain ⟨k1,e1,r1,_⟩:=DataW.trod_int (cs:=[v1]) (x:=x1) Tryz.underlying3 h1
 obtain ⟨p2,a2,c2,e2,z2,q2,t2,n2⟩:=Ja 1048576 (Nat.le_refl _) n [v2,v3,v4,v5,v6] x2 h2 (by omega)
 obtain ⟨p3,a3,c3,e3,z3,q3,t3,n3⟩:=Ja 1048576 (Nat.le_refl _) n [v7,v8,v9,v10,v11] x3 h3 (by omega)
 obtain ⟨p4,a4,c4,e4,z4,q4,t4⟩:=YJ 1048576 (Nat.le_refl _) n [v12,v13,v14,v15,v16] x4 h4 (by omega)
 obtain ⟨s5,e5,r5,_⟩:=DataW.trod_string (cs:=[v17]) (x:=x5) Tryz.underlying9 h5
 obtain ⟨s6,e6,r6,_⟩:=DataW.trod_string (cs:=[v18]) (x:=x6) Tryz.underlying9 h6
 obtain ⟨l7,a7,c7,e7,w7,q7,z7,y7⟩:=Jb (v:=v19) (x:=x7) h7 (by omega)
 obtain ⟨l8,a8,c8,e8,w8,q8,z8,y8⟩:=Jb (v:=v20) (x:=x8) h8 (by omega)
 obtain ⟨s9,e9,r9,_⟩:=DataW.trod_string (cs:=[v21]) (x:=x9) Tryz.underlying9 h9
 obtain ⟨s10,e10,r10,_⟩:=DataW.trod_string (cs:=[v22]) (x:=x10) Tryz.underlying9 h10
 obtain ⟨s11,e11,r11,_⟩:=DataW.trod_string (cs:=[v23]) (x:=x11) Tryz.underlying9 h11
 simp only [List.cons.injEq,and_true] at e0 e1 e2 e3 e4 e5 e6 e9 e10 e11
 subst e0 e1 e5 e6 e7 e8 e9 e10 e11 r0 r5 r6 r9 r10 r11
 obtain ⟨rfl,rfl,rfl,rfl,rfl⟩:=e2
 obtain ⟨rfl,rfl,rfl,rfl,rfl⟩:=e3
 obtain ⟨rfl,rfl,rfl,rfl,rfl⟩:=e4
 dsimp only at hb
 simp only [xH] at hb
 exact ⟨⟨s0,k1,p2,p3,p4,s5,s6,l7,l8,s9,s10,s11⟩,⟨a2,c2,a3,c3,a4,c4,a7,c7,a8,c8⟩,rfl,
  ⟨by dsimp only;omega,⟨z2,by dsimp only;omega⟩,⟨z3,by dsimp only;omega⟩,⟨z4,by dsimp only;omega⟩,by dsimp only;omega,by dsimp only;omega,⟨z7,y7⟩,⟨z8,y8⟩,by dsimp only;omega,by dsimp only;omega,by dsimp only;omega⟩,
  ⟨q2,q3,q4,q7,q8⟩,⟨n2,n3,w7,w8⟩⟩
theorem V7 {fuel:Nat} {v:Value} {x:DataW H×List MemPlace} (h:DataW.trod enc Tryz.prog w 0 spare held fuel 43 [v]=some x) (hb:Rows.uptoBulk x.1≤1048576) :
  ∃(l:List aN) (a:Option Addr) (cap:Nat),v=.slice a l.length cap∧AZ w (· < w.heap.size) a l∧l.length≤1048576:=by
 rcases open_slice (cs:=[v]) (x:=x) Tryz.underlying43 h with ⟨e4,r4⟩|⟨a,len,cap,m,n',D,Pl,e4,_,hlc,hcm,hm,r4,hel⟩
 ·simp only [List.cons.injEq,and_true] at e4;subst e4
  exact ⟨[],none,0,rfl,fun h=>by simp at h,by simp⟩
 ·simp only [List.cons.injEq,and_true] at e4;subst e4
  rw [r4] at hb
  simp only [Rows.uptoBulk] at hb
  have hlm:len≤m:=by rw [hm];split<;>omega
  have hbl:=qG ((List.range len).map D)
  rw [List.length_map,List.length_range] at hbl
  have hce:Tryz.prog.cellsOf 30=24:=by kernel_rfl
  have each:∀i,i<len→∃(s:aN) (sa:ig),nX s∧lH w (· < w.heap.size) sa s∧UD sa s∧∀j (hj:j<24),w.cell? ((a.add (i*24)).add j)=some ((aV sa s)[j]'(by simpa [aV] using hj)):=by
   intro i hi
   obtain ⟨cs',hc,ht⟩:=hel i (by omega)
   have hbi:=Ol D len i hi
   obtain ⟨s,sa,rfl,hz,ho,hx⟩:=YS ht (by dsimp only;omega)
   refine ⟨s,sa,hz,ho,hx,fun j hj=>?_⟩
   have h0:=(World.cells?_some hc).2.2
   rw [hce] at h0
   have h1:=h0 j hj
   rw [List.getElem?_eq_getElem (by simpa [aV] using hj)] at h1
   exact h1
  let g:Nat→aN:=fun i=>if h:i<len then (each i h).choose else ⟨⟨#[]⟩,0,.mk 0 ⟨#[]⟩ 0 ⟨#[]⟩ [],.mk 0 ⟨#[]⟩ 0 ⟨#[]⟩ [],.mk 0 ⟨#[]⟩ 0 ⟨#[]⟩ [],⟨#[]⟩,⟨#[]⟩,[],[],⟨#[]⟩,⟨#[]⟩,⟨#[]⟩⟩
  have hg:∀i,i<len→∃(sa:ig),nX (g i)∧lH w (· < w.heap.size) sa (g i)∧UD sa (g i)∧∀j (hj:j<24),w.cell? ((a.add (i*24)).add j)=some ((aV sa (g i))[j]'(by simpa [aV] using hj)):=by
   intro i hi
   have:=(each i hi).choose_spec
   simp only [g,dif_pos hi];exact this
  refine ⟨(List.range len).map g,some a,cap,by simp,fun h0=>?_,by rw [List.length_map,List.length_range];omega⟩
  rw [List.length_map,List.length_range] at h0
  obtain ⟨b,o,spot⟩:=a
  obtain ⟨_,_,_,_,h1⟩:=hg 0 h0
  have h1:=h1 0 (by decide)
  have hspot:spot=none:=World.cell?_spot (by simpa [Addr.add] using h1)
  subst hspot
  refine ⟨b,o,rfl,fun i hi=>?_⟩
  rw [List.length_map,List.length_range] at hi
  obtain ⟨sa,hz,ho,hx,hc⟩:=hg i hi
  rw [List.getElem_map,List.getElem_range]
  have ea:∀j,((⟨b,o,none⟩:Addr).add (i*24)).add j=⟨b,o+i*24+j,none⟩:=by
   intro j;unfold Addr.add;split<;>split<;>simp_all
  refine ⟨sa,hx,?_,hz,fun j hj=>by rw [←ea];exact hc j hj,ho⟩
  have:=hc 0 (by decide)
  rw [ea] at this
  exact cells_lt this
end
end Go.Proofs.YtefjbnhpjdhjmaaGreatDoor

namespace Go.Proofs.YtefjbnhpjdhjmaaGreatDoor
set_option linter.all false
open Go.RowKit
def jl:List aN→Nat→List UInt8→List UInt8×Int×Nat
 | [],_,d=>if 65536<d.length then ([],4,0) else (d,0,0)
 | s::r,i,d=>if (fE s).2≠0 then ([],(fE s).2,i) else jl r (i+1) (d++((fE s).1++[10]))
def jM (l:List aN):List UInt8×Int×Nat:=if 1000<l.length then ([],5,0) else jl l 0 []
def Wh (l:List aN) (w:World) (e:Ending) (w':World):Prop :=
 e=.returned (.tuple #[.string ⟨(jM l).1.toArray⟩,.agg #[.int .i64 (jM l).2.1,.int .i64 ((jM l).2.2:Int)]])∧Kept aC w w'
theorem Td (l:List aN) (j:Nat) (d:List UInt8) (h:j<l.length) (hb:(fE l[j]).2≠0):jl (l.drop j) j d=([],(fE l[j]).2,j):=by
 rw [List.drop_eq_getElem_cons h,jl,if_pos hb]
theorem Wi (l:List aN) (j:Nat) (d:List UInt8) (h:j<l.length) (hb:(fE l[j]).2=0):jl (l.drop j) j d=jl (l.drop (j+1)) (j+1) (d++((fE l[j]).1++[10])):=by
 rw [List.drop_eq_getElem_cons h,jl,if_neg (by simpa using hb)]
theorem Tf (l:List aN) (d:List UInt8):jl (l.drop l.length) l.length d=if 65536<d.length then ([],4,0) else (d,0,0):=by
 rw [List.drop_length,jl]
theorem Ti (s:aN):(fE s).1.length≤2000:=by
 unfold fE
 split
 ·simp
 split
 ·simp
 split
 ·simp
 split
 ·simp
 ·simp only;omega
end Go.Proofs.YtefjbnhpjdhjmaaGreatDoor

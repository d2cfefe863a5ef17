import Derived.Test.YtdkpdomggbiolaaBase
namespace Go.Proofs.Ytdkpdomggbiolaa
set_option linter.all false
open Go.RowKit

def WalkPost {σ : Type} (I : σ → World → Prop) (X : Nat → Prop) (r : σ × Bool) (w : World) (e : Ending) (w' : World) : Prop :=
  e = .returned (.bool r.2) ∧ I r.1 w' ∧ Kept X w w'

mutual
theorem walkF_G {σ : Type} {G : Nat → σ → Prop} {f : σ → PatT → Nat → σ × Bool} (hG : ∀ n st p d, G (n + 1) st → (f st p d).2 = true → G n (f st p d).1) : ∀ (p : PatT) (r : Nat) (st : σ) (d : Nat), G (sizeT p + r) st → (walkF f st p d).2 = true → G r (walkF f st p d).1
  | .mk k t n nm kids, r, st, d, hg => by
    have h1 := hG (sizeL kids + r) st (.mk k t n nm kids) d (by rw [sizeT] at hg; rwa [show sizeL kids + r + 1 = 1 + sizeL kids + r by omega])
    rw [walkF]
    cases hr : f st (.mk k t n nm kids) d with
    | mk st1 ok => rw [hr] at h1; cases ok <;> simp_all; exact walkKids_G hG kids r st1 (d + 1) h1
theorem walkKids_G {σ : Type} {G : Nat → σ → Prop} {f : σ → PatT → Nat → σ × Bool} (hG : ∀ n st p d, G (n + 1) st → (f st p d).2 = true → G n (f st p d).1) : ∀ (l : List PatT) (r : Nat) (st : σ) (d : Nat), G (sizeL l + r) st → (walkKids f st l d).2 = true → G r (walkKids f st l d).1
  | [], r, st, d, hg => by intro _; rw [walkKids]; rw [sizeL, Nat.zero_add] at hg; exact hg
  | p :: ps, r, st, d, hg => by
    have h1 := walkF_G hG p (sizeL ps + r) st d (by rw [sizeL] at hg; rwa [← Nat.add_assoc])
    rw [walkKids]
    cases hr : walkF f st p d with
    | mk st1 ok => rw [hr] at h1; cases ok <;> simp_all; exact walkKids_G hG ps r st1 d h1
end
theorem sizeL_drop (l : List PatT) (j : Nat) (hj : j < l.length) : sizeL (l.drop j) = sizeT l[j] + sizeL (l.drop (j + 1)) := by
  rw [List.drop_eq_getElem_cons hj, sizeL]

set_option maxRecDepth 100000 in
set_option maxHeartbeats 400000 in
theorem walk_any {σ : Type} (F : FuncId) (caps : Array Value) (hF : ∀ (args : Array Value) (w : World), (callFunc F args).run Try.prog w = .ok (.enter F args) w)
    (I : σ → World → Prop) (G : Nat → σ → Prop) (f : σ → PatT → Nat → σ × Bool) (hG : ∀ n st p d, G (n + 1) st → (f st p d).2 = true → G n (f st p d).1) (X : Nat → Prop) (S : Nat → Prop) (D : Nat) (hD : D < 1000000000)
    (hcl : ∀ n st p b o d w, I st w → G (n + 1) st → PatAt w S b o p → Safe S X w.heap.size → d ≤ D → Calls Try.prog F (#[.pointer (some ⟨b, o, none⟩), .int .i64 (d : Nat)] ++ caps) w (WalkPost I X (f st p d) w)) :
    ∀ (m : Nat) (p : PatT) (r : Nat) (st : σ) (b o d : Nat) (w : World), sizeT p ≤ m → d + m ≤ D → I st w → G (sizeT p + r) st → PatAt w S b o p → Safe S X w.heap.size →
      Calls Try.prog 29 #[.pointer (some ⟨b, o, none⟩), .int .i64 (d : Nat), .func (.func F) #[] caps] w (WalkPost I X (walkF f st p d) w) := by
  intro m
  induction m with
  | zero => intro p r st b o d w hm; cases p; simp [sizeT] at hm
  | succ m ih =>
    rintro ⟨k, t, n, nm, kids⟩ r st b o d w hm hd hI hg hp hS
    replace hg : G (sizeL kids + r + 1) st := by rw [sizeT] at hg; rwa [show sizeL kids + r + 1 = 1 + sizeL kids + r by omega]
    go_enter Try.func29, Try.ntmps29
    go_wp2_with fail
    refine (hcl (sizeL kids + r) st _ b o d _ hI hg hp hS (by omega)).mono ?_
    rintro e w1 ⟨rfl, hI1, hb1⟩
    have hS1 := hS.mono hb1.size
    have hp1 := hp.kept hb1 hS
    unfold PatAt at hp1
    obtain ⟨hbB, ⟨_, _, hkl⟩, h0, h1, h2, h3, ka, cap, h4, hk⟩ := hp1
    clear h0 h1 h2 h3
    have hg1 := hG (sizeL kids + r) st (.mk k t n nm kids) d hg
    cases hr : (f st (.mk k t n nm kids) d) with
    | mk st1 ok =>
    rw [hr] at hI1 hg1
    cases ok with
    | false =>
      have Hr := Lib.hid hr; clear hr
      dsimp only at hI1 hg1
      go_wp2_with fail
      go_ret
      exact ⟨by simp [walkF, Hr.out], by simpa [walkF, Hr.out] using hI1, hb1⟩
    | true =>
      have Hr := Lib.hid hr; clear hr
      dsimp only at hI1 hg1
      have hlen : kids.length ≤ m := by have h := length_le_sizeL kids; simp only [sizeT] at hm; omega
      have hsz : ∀ j (hj : j < kids.length), sizeT kids[j] ≤ m := by intro j hj; have h := sizeT_get kids j hj; simp only [sizeT] at hm; omega
      replace hg1 := hg1 rfl
      have Hw : Hid (walkF f st (.mk k t n nm kids) d = walkKids f st1 kids (d + 1)) := by simp [walkF, Hr.out, Hid]
      clear hm
      go_wp2_with fail
      go_loopw [18] (fun i wr => ∃ (j : Nat) (st' : σ), j ≤ kids.length ∧ i = .int .i64 j ∧ Hid (walkKids f st' (kids.drop j) (d+1) = walkKids f st1 kids (d + 1)) ∧ I st' wr ∧ G (sizeL (kids.drop j) + r) st' ∧ Kept X w wr) (fun i _ => kids.length - (intOf i).toNat)
      case atStart => exact ⟨0, st1, Nat.zero_le _, rfl, by simp [Hid], hI1, by simpa using hg1, hb1⟩
      case round =>
        obtain ⟨j, st', hj, rfl, Hk, hI', hg', hb'⟩ := hrel
        have hp' := hp.kept hb' hS
        have hS' := hS.mono hb'.size
        unfold PatAt at hp'
        obtain ⟨hbB', _, _, _, _, _, ka', cap', h4', hk'⟩ := hp'
        by_cases hlt : j < kids.length
        · obtain ⟨kb, ko, rfl⟩ := PatsAt_head hk' (by omega)
          have hkid := PatsAt_get kids kb ko j hlt hk'
          have hszj := hsz j hlt
          replace hg' : G (sizeT kids[j] + (sizeL (kids.drop (j + 1)) + r)) st' := by rw [sizeL_drop kids j hlt] at hg'; rwa [← Nat.add_assoc]
          go_wp2_with fail
          refine (ih kids[j] (sizeL (kids.drop (j + 1)) + r) st' kb (ko + j * 5) (d + 1) _ hszj (by omega) hI' hg' hkid hS').mono ?_
          rintro e w2 ⟨rfl, hI2, hb2⟩
          have Hs : Hid (walkKids f st' (kids.drop j) (d + 1) = match walkF f st' kids[j] (d+1) with | (st', false) => (st', false) | (st', true) => walkKids f st' (kids.drop (j+1)) (d+1)) := by
            rw [List.drop_eq_getElem_cons hlt]; simp only [walkKids, Hid] <;> rfl
          cases hr2 : walkF f st' kids[j] (d+1) with
          | mk st2 ok2 =>
          rw [hr2] at hI2
          have hg2 := walkF_G hG kids[j] (sizeL (kids.drop (j + 1)) + r) st' (d + 1) hg'
          rw [hr2] at hg2
          have Hr2 := Lib.hid hr2; clear hr2
          dsimp only at hI2
          cases ok2 with
          | false =>
            go_wp2_with fail
            go_ret
            have e1 : walkF f st (.mk k t n nm kids) d = (st2, false) := by
              rw [Hw.out, ← Hk.out, Hs.out, Hr2.out]
            rw [e1]; exact ⟨rfl, hI2, hb'.trans hb2⟩
          | true =>
            go_wp2_with fail
            go_roundw
            case rel => exact ⟨j + 1, st2, by omega, by go_num, by unfold Hid; rw [← Hk.out, Hs.out, Hr2.out], hI2, hg2 trivial, hb'.trans hb2⟩
            case measure => simp [intOf]; omega
        · go_wp2_with fail
          go_ret
          have e1 : walkF f st (.mk k t n nm kids) d = (st', true) := by
            rw [Hw.out, ← Hk.out, List.drop_of_length_le (by omega)]; rfl
          rw [e1]; exact ⟨rfl, hI', hb'⟩
end Go.Proofs.Ytdkpdomggbiolaa

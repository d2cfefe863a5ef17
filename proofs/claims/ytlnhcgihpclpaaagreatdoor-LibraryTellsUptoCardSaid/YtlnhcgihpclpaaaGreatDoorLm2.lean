/- The library's table; early, late, shelves. -/
import Derived.Test.YtlnhcgihpclpaaaGreatDoorLm1
namespace Go.Proofs.YtlnhcgihpclpaaaGreatDoor
set_option linter.all false
open Go.RowKit

abbrev ShelfT := List (ByteArray × ByteArray)
def tabCs (l : ShelfT) : List Value := l.flatMap fun x => [.string x.1, .string x.2]
/-- The text in the k-th row that a function builds in its second region: taken from the program's own code. -/
def opText : Op → ByteArray
  | Op.build _ ps => match ps[1]?.map Prod.snd with
    | some (Operand.const (Value.string b)) => b
    | _ => ⟨#[]⟩
  | _ => ⟨#[]⟩
def rowText (f : Func) (k : Nat) : ByteArray :=
  match f.body with
  | some (Code.seq _ (Code.seq (Code.region _ ops _) _)) =>
    match ops[k]? with
    | some o => opText o.op
    | none => ⟨#[]⟩
  | _ => ⟨#[]⟩
noncomputable def tx_binary : ByteArray := rowText Tryz.f18 0
noncomputable def tx_brackets : ByteArray := rowText Tryz.f18 1
noncomputable def tx_caesar : ByteArray := rowText Tryz.f18 2
noncomputable def tx_cat : ByteArray := rowText Tryz.f18 3
noncomputable def tx_collatz : ByteArray := rowText Tryz.f18 4
noncomputable def tx_count : ByteArray := rowText Tryz.f18 5
noncomputable def tx_digits : ByteArray := rowText Tryz.f18 6
noncomputable def tx_divisors : ByteArray := rowText Tryz.f18 7
noncomputable def tx_euclid : ByteArray := rowText Tryz.f18 8
noncomputable def tx_factorial : ByteArray := rowText Tryz.f18 9
noncomputable def tx_fibonacci : ByteArray := rowText Tryz.f18 10
noncomputable def tx_fields : ByteArray := rowText Tryz.f18 11
noncomputable def tx_hanoi : ByteArray := rowText Tryz.f18 12
noncomputable def tx_head : ByteArray := rowText Tryz.f18 13
noncomputable def tx_longest : ByteArray := rowText Tryz.f18 14
noncomputable def tx_mirror : ByteArray := rowText Tryz.f19 0
noncomputable def tx_number : ByteArray := rowText Tryz.f19 1
noncomputable def tx_pascal : ByteArray := rowText Tryz.f19 2
noncomputable def tx_primes : ByteArray := rowText Tryz.f19 3
noncomputable def tx_range : ByteArray := rowText Tryz.f19 4
noncomputable def tx_reverse : ByteArray := rowText Tryz.f19 5
noncomputable def tx_roman : ByteArray := rowText Tryz.f19 6
noncomputable def tx_sort : ByteArray := rowText Tryz.f19 7
noncomputable def tx_squeeze : ByteArray := rowText Tryz.f19 8
noncomputable def tx_sum : ByteArray := rowText Tryz.f19 9
noncomputable def tx_unique : ByteArray := rowText Tryz.f19 10
noncomputable def tx_upper : ByteArray := rowText Tryz.f19 11
noncomputable def tx_vowels : ByteArray := rowText Tryz.f19 12
noncomputable def tx_words : ByteArray := rowText Tryz.f19 13
noncomputable def tabE : ShelfT := [(⟨#[98, 105, 110, 97, 114, 121]⟩, tx_binary), (⟨#[98, 114, 97, 99, 107, 101, 116, 115]⟩, tx_brackets), (⟨#[99, 97, 101, 115, 97, 114]⟩, tx_caesar), (⟨#[99, 97, 116]⟩, tx_cat), (⟨#[99, 111, 108, 108, 97, 116, 122]⟩, tx_collatz), (⟨#[99, 111, 117, 110, 116]⟩, tx_count), (⟨#[100, 105, 103, 105, 116, 115]⟩, tx_digits), (⟨#[100, 105, 118, 105, 115, 111, 114, 115]⟩, tx_divisors), (⟨#[101, 117, 99, 108, 105, 100]⟩, tx_euclid), (⟨#[102, 97, 99, 116, 111, 114, 105, 97, 108]⟩, tx_factorial), (⟨#[102, 105, 98, 111, 110, 97, 99, 99, 105]⟩, tx_fibonacci), (⟨#[102, 105, 101, 108, 100, 115]⟩, tx_fields), (⟨#[104, 97, 110, 111, 105]⟩, tx_hanoi), (⟨#[104, 101, 97, 100]⟩, tx_head), (⟨#[108, 111, 110, 103, 101, 115, 116]⟩, tx_longest)]
noncomputable def tabL : ShelfT := [(⟨#[109, 105, 114, 114, 111, 114]⟩, tx_mirror), (⟨#[110, 117, 109, 98, 101, 114]⟩, tx_number), (⟨#[112, 97, 115, 99, 97, 108]⟩, tx_pascal), (⟨#[112, 114, 105, 109, 101, 115]⟩, tx_primes), (⟨#[114, 97, 110, 103, 101]⟩, tx_range), (⟨#[114, 101, 118, 101, 114, 115, 101]⟩, tx_reverse), (⟨#[114, 111, 109, 97, 110]⟩, tx_roman), (⟨#[115, 111, 114, 116]⟩, tx_sort), (⟨#[115, 113, 117, 101, 101, 122, 101]⟩, tx_squeeze), (⟨#[115, 117, 109]⟩, tx_sum), (⟨#[117, 110, 105, 113, 117, 101]⟩, tx_unique), (⟨#[117, 112, 112, 101, 114]⟩, tx_upper), (⟨#[118, 111, 119, 101, 108, 115]⟩, tx_vowels), (⟨#[119, 111, 114, 100, 115]⟩, tx_words)]
noncomputable def tabA : ShelfT := tabE ++ tabL
theorem tabCs_append (a b : ShelfT) : tabCs (a ++ b) = tabCs a ++ tabCs b := by unfold tabCs; rw [List.flatMap_append]
theorem tabCs_len (l : ShelfT) : (tabCs l).length = l.length * 2 := by
  unfold tabCs
  induction l with
  | nil => rfl
  | cons x r ih => rw [List.flatMap_cons, List.length_append, ih]; simp; omega
theorem tabCs_at (l : ShelfT) (j : Nat) (h : j < l.length) : (tabCs l)[j * 2]? = some (.string l[j].1) ∧ (tabCs l)[j * 2 + 1]? = some (.string l[j].2) := by
  unfold tabCs
  induction l generalizing j with
  | nil => simp at h
  | cons x r ih =>
    cases j with
    | zero => exact ⟨rfl, rfl⟩
    | succ j =>
      have := ih j (by simpa using h)
      rw [show (j + 1) * 2 = j * 2 + 1 + 1 by omega, show j * 2 + 1 + 1 + 1 = j * 2 + 1 + 1 + 1 from rfl, List.flatMap_cons]
      exact this
theorem tabCs_one (l : ShelfT) : ∀ u ∈ tabCs l, u.oneCell' = true := by
  intro u hu
  unfold tabCs at hu
  obtain ⟨x, _, hx⟩ := List.mem_flatMap.1 hu
  simp at hx
  rcases hx with rfl | rfl <;> rfl
theorem infoShelf : (Tryz.prog.info? 39).map (fun i => (i.zero, i.size, i.bytes)) = some (some (.agg #[.string ⟨#[]⟩, .string ⟨#[]⟩]), 2, 32) := by kernel_rfl
set_option maxRecDepth 100000 in
set_option maxHeartbeats 4000000 in
theorem early_any (w : World) : Calls Tryz.prog 18 #[] w (fun e w' => e = .returned (.slice (some ⟨w.heap.size, 0, none⟩) 15 15) ∧ w' = w.alloc (.cells (tabCs tabE).toArray 39)) := by
  go_enter Tryz.func18, Tryz.ntmps18
  go_wp2_with fail
  go_ret
  refine ⟨rfl, ?_⟩
  refine congrArg (fun x => w.alloc (.cells x 39)) ?_
  kernel_rfl
set_option maxRecDepth 100000 in
set_option maxHeartbeats 4000000 in
theorem late_any (w : World) : Calls Tryz.prog 19 #[] w (fun e w' => e = .returned (.slice (some ⟨w.heap.size, 0, none⟩) 14 14) ∧ w' = w.alloc (.cells (tabCs tabL).toArray 39)) := by
  go_enter Tryz.func19, Tryz.ntmps19
  go_wp2_with fail
  go_ret
  refine ⟨rfl, ?_⟩
  refine congrArg (fun x => w.alloc (.cells x 39)) ?_
  kernel_rfl
def ShelvesQ (w : World) (e : Ending) (w' : World) : Prop := ∃ a c, e = .returned (.slice a 29 c) ∧ Win w' w.heap.size 39 2 (.slice a 29 c) 29 (tabCs tabA) ∧ Kept Nix w w'
set_option maxRecDepth 100000 in
set_option maxHeartbeats 4000000 in
theorem shelves_any (w : World) : Calls Tryz.prog 11 #[] w (ShelvesQ w) := by
  obtain ⟨i0, hi0, hz0, hz1, hz2⟩ := info_parts infoShelf
  obtain ⟨w1, hw1⟩ : ∃ w1, w1 = w.alloc (.cells (tabCs tabE).toArray 39) := ⟨_, rfl⟩
  have k1 : Kept Nix w w1 := by rw [hw1]; exact (Kept.refl _ _).alloc _
  have r1 : w1.heap[w.heap.size]? = some (.cells (tabCs tabE).toArray 39 (0, 0)) := by rw [hw1]; exact heap_alloc_new w _
  obtain ⟨w2, hw2⟩ : ∃ w2, w2 = w1.alloc (.cells (tabCs tabL).toArray 39) := ⟨_, rfl⟩
  have k2 : Kept Nix w1 w2 := by rw [hw2]; exact (Kept.refl _ _).alloc _
  have r2 : w2.heap[w1.heap.size]? = some (.cells (tabCs tabL).toArray 39 (0, 0)) := by rw [hw2]; exact heap_alloc_new w1 _
  have r1' : w2.heap[w.heap.size]? = some (.cells (tabCs tabE).toArray 39 (0, 0)) := by rw [k2.block _ (Array.getElem?_eq_some_iff.1 r1).1 (fun h => h)]; exact r1
  have hE : (tabCs tabE).length = 30 := by rw [tabCs_len]; rfl
  have hL : (tabCs tabL).length = 28 := by rw [tabCs_len]; rfl
  have hW : Win w2 w.heap.size 39 2 (.slice (some ⟨w.heap.size, 0, none⟩) 15 15) 15 (tabCs tabE) := ⟨by rw [hE], .inr ⟨w.heap.size, 0, 15, _, rfl, Nat.le_refl _, r1', Nat.le_refl _, by unfold maxLen; decide, by simp [hE], by (simp only [List.drop_zero]; exact List.take_of_length_le (by simp [hE]))⟩⟩
  have hS : Src Tryz.prog 2 35 (.slice (some ⟨w1.heap.size, 0, none⟩) 14 14) 14 (tabCs tabL) w2 :=
    Src.ofSlice _ Tryz.underlying35 _ _ _ _ (by rw [hL]) (by have := World.news_of_block (fr := (0, 0)) (cs := (tabCs tabL).toArray) r2; simpa using this) (tabCs_one tabL)
  have HE := Lib.hid (early_any w); have HLt := Lib.hid (late_any w1)
  have HW := Lib.hid hW; have HSr := Lib.hid hS
  rw [← hw1] at HE
  rw [← hw2] at HLt
  have hsz := k1.size; have hsz2 := k2.size
  have K2 := Lib.hid (k1.trans k2)
  clear hw1 hw2 r1 r2 r1' k1 k2 hW hS
  go_enter Tryz.func11, Tryz.ntmps11
  go_wp2_with (first
    | (go_at_call 18; (refine HE.out.mono ?_); rintro e w' ⟨rfl, hw_⟩; obtain rfl := hw_.symm)
    | (go_at_call 19; (refine HLt.out.mono ?_); rintro e w' ⟨rfl, hw_⟩; obtain rfl := hw_.symm)
    | (refine wpList_append_win w2 rfl (.tmp 1) (.tmp 2) 35 35 rfl w.heap.size 39 i0 (.agg #[.string ⟨#[]⟩, .string ⟨#[]⟩]) 2 32 Tryz.underlying35 hi0 hz0 hz1 hz2 rfl _ 15 (tabCs tabE) rfl HW.out _ 14 (tabCs tabL) rfl HSr.out (by unfold maxLen; decide) (by decide) (by omega) ?_; intro a3 c3 w3 hW3 hg3 ho3))
  have hK : Kept Nix w w3 := (K2.out.grown hg3 (fun b hb => .inr (HW.out.lt b hb).1))
  go_ret
  exact ⟨a3, c3, rfl, by rw [show tabCs tabA = tabCs tabE ++ tabCs tabL from tabCs_append tabE tabL]; exact hW3, hK⟩
end Go.Proofs.YtlnhcgihpclpaaaGreatDoor

namespace Go.Proofs.YtlnhcgihpclpaaaGreatDoor
set_option linter.all false
open Go.RowKit

def WalkPost {σ : Type} (I : σ → World → Prop) (X : Nat → Prop) (r : σ × Bool) (w : World) (e : Ending) (w' : World) : Prop :=
  e = .returned (.bool r.2) ∧ I r.1 w' ∧ Kept X w w'

mutual
theorem walkF_G {σ : Type} {G : Nat → σ → Prop} {f : σ → PatT → Nat → σ × Bool} (hG : ∀ n st p d, G (n + 1) st → (f st p d).2 = true → G n (f st p d).1) : ∀ (p : PatT) (r : Nat) (st : σ) (d : Nat), G (sizeT p + r) st → (walkF f st p d).2 = true → G r (walkF f st p d).1
  | .mk k t n nm kids, r, st, d, hg => by
    have h1 := hG (sizeL kids + r) st (.mk k t n nm kids) d (by rw [sizeT] at hg; rwa [show sizeL kids + r + 1 = 1 + sizeL kids + r by omega])
    rw [walkF]
    cases hr : f st (.mk k t n nm kids) d with
    | mk st1 ok => rw [hr] at h1; cases ok <;> simp_all; exact walkKids_G hG kids r st1 (d + 1) h1
theorem walkKids_G {σ : Type} {G : Nat → σ → Prop} {f : σ → PatT → Nat → σ × Bool} (hG : ∀ n st p d, G (n + 1) st → (f st p d).2 = true → G n (f st p d).1) : ∀ (l : List PatT) (r : Nat) (st : σ) (d : Nat), G (sizeL l + r) st → (walkKids f st l d).2 = true → G r (walkKids f st l d).1
  | [], r, st, d, hg => by intro _; rw [walkKids]; rw [sizeL, Nat.zero_add] at hg; exact hg
  | p :: ps, r, st, d, hg => by
    have h1 := walkF_G hG p (sizeL ps + r) st d (by rw [sizeL] at hg; rwa [← Nat.add_assoc])
    rw [walkKids]
    cases hr : walkF f st p d with
    | mk st1 ok => rw [hr] at h1; cases ok <;> simp_all; exact walkKids_G hG ps r st1 d h1
end
theorem sizeL_drop (l : List PatT) (j : Nat) (hj : j < l.length) : sizeL (l.drop j) = sizeT l[j] + sizeL (l.drop (j + 1)) := by
  rw [List.drop_eq_getElem_cons hj, sizeL]

set_option maxRecDepth 100000 in
set_option maxHeartbeats 400000 in
theorem walk_any {σ : Type} (F : FuncId) (caps : Array Value) (hF : ∀ (args : Array Value) (w : World), (callFunc F args).run Tryz.prog w = .ok (.enter F args) w)
    (I : σ → World → Prop) (G : Nat → σ → Prop) (f : σ → PatT → Nat → σ × Bool) (hG : ∀ n st p d, G (n + 1) st → (f st p d).2 = true → G n (f st p d).1) (X : Nat → Prop) (S : Nat → Prop) (D : Nat) (hD : D < 1000000000)
    (hcl : ∀ n st p b o d w, I st w → G (n + 1) st → PatAt w S b o p → Safe S X w.heap.size → d ≤ D → Calls Tryz.prog F (#[.pointer (some ⟨b, o, none⟩), .int .i64 (d : Nat)] ++ caps) w (WalkPost I X (f st p d) w)) :
    ∀ (m : Nat) (p : PatT) (r : Nat) (st : σ) (b o d : Nat) (w : World), sizeT p ≤ m → d + m ≤ D → I st w → G (sizeT p + r) st → PatAt w S b o p → Safe S X w.heap.size →
      Calls Tryz.prog 74 #[.pointer (some ⟨b, o, none⟩), .int .i64 (d : Nat), .func (.func F) #[] caps] w (WalkPost I X (walkF f st p d) w) := by
  intro m
  induction m with
  | zero => intro p r st b o d w hm; cases p; simp [sizeT] at hm
  | succ m ih =>
    rintro ⟨k, t, n, nm, kids⟩ r st b o d w hm hd hI hg hp hS
    replace hg : G (sizeL kids + r + 1) st := by rw [sizeT] at hg; rwa [show sizeL kids + r + 1 = 1 + sizeL kids + r by omega]
    go_enter Tryz.func74, Tryz.ntmps74
    go_wp2_with fail
    refine (hcl (sizeL kids + r) st _ b o d _ hI hg hp hS (by omega)).mono ?_
    rintro e w1 ⟨rfl, hI1, hb1⟩
    have hS1 := hS.mono hb1.size
    have hp1 := hp.kept hb1 hS
    unfold PatAt at hp1
    obtain ⟨hbB, ⟨_, _, hkl⟩, h0, h1, h2, h3, ka, cap, h4, hk⟩ := hp1
    clear h0 h1 h2 h3
    have hg1 := hG (sizeL kids + r) st (.mk k t n nm kids) d hg
    cases hr : (f st (.mk k t n nm kids) d) with
    | mk st1 ok =>
    rw [hr] at hI1 hg1
    cases ok with
    | false =>
      have Hr := Lib.hid hr; clear hr
      dsimp only at hI1 hg1
      go_wp2_with fail
      go_ret
      exact ⟨by simp [walkF, Hr.out], by simpa [walkF, Hr.out] using hI1, hb1⟩
    | true =>
      have Hr := Lib.hid hr; clear hr
      dsimp only at hI1 hg1
      have hlen : kids.length ≤ m := by have h := length_le_sizeL kids; simp only [sizeT] at hm; omega
      have hsz : ∀ j (hj : j < kids.length), sizeT kids[j] ≤ m := by intro j hj; have h := sizeT_get kids j hj; simp only [sizeT] at hm; omega
      replace hg1 := hg1 rfl
      have Hw : Hid (walkF f st (.mk k t n nm kids) d = walkKids f st1 kids (d + 1)) := by simp [walkF, Hr.out, Hid]
      clear hm
      go_wp2_with fail
      go_loopw [18] (fun i wr => ∃ (j : Nat) (st' : σ), j ≤ kids.length ∧ i = .int .i64 j ∧ Hid (walkKids f st' (kids.drop j) (d+1) = walkKids f st1 kids (d + 1)) ∧ I st' wr ∧ G (sizeL (kids.drop j) + r) st' ∧ Kept X w wr) (fun i _ => kids.length - (intOf i).toNat)
      case atStart => exact ⟨0, st1, Nat.zero_le _, rfl, by simp [Hid], hI1, by simpa using hg1, hb1⟩
      case round =>
        obtain ⟨j, st', hj, rfl, Hk, hI', hg', hb'⟩ := hrel
        have hp' := hp.kept hb' hS
        have hS' := hS.mono hb'.size
        unfold PatAt at hp'
        obtain ⟨hbB', _, _, _, _, _, ka', cap', h4', hk'⟩ := hp'
        by_cases hlt : j < kids.length
        · obtain ⟨kb, ko, rfl⟩ := PatsAt_head hk' (by omega)
          have hkid := PatsAt_get kids kb ko j hlt hk'
          have hszj := hsz j hlt
          replace hg' : G (sizeT kids[j] + (sizeL (kids.drop (j + 1)) + r)) st' := by rw [sizeL_drop kids j hlt] at hg'; rwa [← Nat.add_assoc]
          go_wp2_with fail
          refine (ih kids[j] (sizeL (kids.drop (j + 1)) + r) st' kb (ko + j * 5) (d + 1) _ hszj (by omega) hI' hg' hkid hS').mono ?_
          rintro e w2 ⟨rfl, hI2, hb2⟩
          have Hs : Hid (walkKids f st' (kids.drop j) (d + 1) = match walkF f st' kids[j] (d+1) with | (st', false) => (st', false) | (st', true) => walkKids f st' (kids.drop (j+1)) (d+1)) := by
            rw [List.drop_eq_getElem_cons hlt]; simp only [walkKids, Hid] <;> rfl
          cases hr2 : walkF f st' kids[j] (d+1) with
          | mk st2 ok2 =>
          rw [hr2] at hI2
          have hg2 := walkF_G hG kids[j] (sizeL (kids.drop (j + 1)) + r) st' (d + 1) hg'
          rw [hr2] at hg2
          have Hr2 := Lib.hid hr2; clear hr2
          dsimp only at hI2
          cases ok2 with
          | false =>
            go_wp2_with fail
            go_ret
            have e1 : walkF f st (.mk k t n nm kids) d = (st2, false) := by
              rw [Hw.out, ← Hk.out, Hs.out, Hr2.out]
            rw [e1]; exact ⟨rfl, hI2, hb'.trans hb2⟩
          | true =>
            go_wp2_with fail
            go_roundw
            case rel => exact ⟨j + 1, st2, by omega, by go_num, by unfold Hid; rw [← Hk.out, Hs.out, Hr2.out], hI2, hg2 trivial, hb'.trans hb2⟩
            case measure => simp [intOf]; omega
        · go_wp2_with fail
          go_ret
          have e1 : walkF f st (.mk k t n nm kids) d = (st', true) := by
            rw [Hw.out, ← Hk.out, List.drop_of_length_le (by omega)]; rfl
          rw [e1]; exact ⟨rfl, hI', hb'⟩
end Go.Proofs.YtlnhcgihpclpaaaGreatDoor

namespace Go.Proofs.YtlnhcgihpclpaaaGreatDoor
set_option linter.all false
open Go.RowKit

def sizeStep (st : Nat × Nat) (_ : PatT) (d : Nat) : (Nat × Nat) × Bool :=
  ((st.1 + 1, max st.2 d), decide (st.1 + 1 ≤ 4096) && decide (d ≤ 200))

def SizeI (c1 c2 : Nat) (st : Nat × Nat) (w : World) : Prop := Cel w c1 3 (.int .i64 st.1) ∧ Cel w c2 3 (.int .i64 st.2)

theorem size1_fin {c1 c2 n k d : Nat} {p : PatT} {w : World} (hne : c1 ≠ c2) (h1 : Cel w c1 3 (.int .i64 n)) (h2 : Cel w c2 3 (.int .i64 k)) {u : Bool} {v : Int}
    (hu : u = (decide (n + 1 ≤ 4096) && decide (d ≤ 200))) (hv : v = (max k d : Nat)) :
    WalkPost (SizeI c1 c2) (fun b => b = c1 ∨ b = c2) (sizeStep (n, k) p d) w (.returned (.bool u)) ((w.setCell ⟨c1, 0, none⟩ (.int .i64 ((n : Int) + 1))).setCell ⟨c2, 0, none⟩ (.int .i64 v)) := by
  subst hu hv
  refine ⟨rfl, ⟨?_, (h2.other hne.symm _).set _⟩, ((Kept.refl _ w).setCell (.inl (by simp)) _).setCell (.inl (by simp)) _⟩
  simpa [sizeStep] using (h1.set (.int .i64 ((n : Int) + 1))).other (o := 0) hne (.int .i64 (max k d : Nat))

set_option maxRecDepth 100000 in
set_option maxHeartbeats 400000 in
theorem size1_any (c1 c2 : Nat) (hne : c1 ≠ c2) (st : Nat × Nat) (p : PatT) (a : Value) (d : Nat) (w : World)
    (hI : SizeI c1 c2 st w) (hd : d < 1000000000) (hs : st.1 ≤ 4096) :
    Calls Tryz.prog 89 #[a, .int .i64 (d : Nat), .pointer (some ⟨c1, 0, none⟩), .pointer (some ⟨c2, 0, none⟩)] w
      (WalkPost (SizeI c1 c2) (fun b => b = c1 ∨ b = c2) (sizeStep st p d) w) := by
  obtain ⟨n, k⟩ := st
  obtain ⟨h1, h2⟩ := hI
  dsimp only at h1 h2 hs
  have q1 := h1.cell; have q2 := h2.cell; have f1 := h1.free; have f2 := h2.free
  have H1 := Lib.hid h1; have H2 := Lib.hid h2; clear h1 h2
  go_enter Tryz.func89, Tryz.ntmps89
  go_wp2
  all_goals
    go_ret
    exact size1_fin hne H1.out H2.out (by first | (rw [decide_eq_true (show n + 1 ≤ 4096 from by omega), Bool.true_and]; exact decide_eq_decide.2 (by omega)) | rw [decide_eq_false (show ¬ n + 1 ≤ 4096 from by omega), Bool.false_and]) (by omega)

theorem PatV.box {w : World} {S : Nat → Prop} {v : Value} {p : PatT} (h : PatV w S v p) (t : TypeId) (hS : ∀ b, S b → b < w.heap.size) :
    ∃ c, v = .agg c ∧ PatAt (w.alloc (.cells c t)) (fun b => S b ∨ b = w.heap.size) w.heap.size 0 p := by
  obtain ⟨k, tx, n, nm, kids⟩ := p
  obtain ⟨ka, cap, rfl, hz, hk⟩ := h
  dsimp only [PatT.kind, PatT.text, PatT.n, PatT.name, PatT.kids] at hk hz
  refine ⟨_, rfl, ?_⟩
  unfold PatAt
  refine ⟨.inr rfl, hz, by simp, by simp, by simp, by simp, ka, cap, by simp, ?_⟩
  exact PatsAt.same (fun b hb => Below.heap_alloc _ _ _ (hS b hb)) (fun b hb => .inl hb) kids ka hk

def sizeR (r : (Nat × Nat) × Bool) : Value := if r.2 then .tuple #[.int .i64 r.1.1, .int .i64 r.1.2, .int .i64 0] else .tuple #[.int .i64 0, .int .i64 0, .int .i64 4]
def sizeF (p : PatT) : Value := sizeR (walkF sizeStep (0, 0) p 1)

set_option maxRecDepth 100000 in
set_option maxHeartbeats 400000 in
theorem size_any (p : PatT) (v : Value) (w : World) (hp : PatV w (· < w.heap.size) v p) (hsz : sizeT p ≤ 100000000) :
    Calls Tryz.prog 73 #[v] w (fun e w' => e = .returned (sizeF p) ∧ Kept Nix w w') := by
  obtain ⟨c, rfl, hb⟩ := hp.box 47 (fun b hb => hb)
  have hmf : ∀ (fn : Fn) (first cap : Array Value) (w : World), (Instr.makeFunc fn first cap).run Tryz.prog w = .ok (.func fn first cap) w := fun _ _ _ _ => rfl
  go_enter Tryz.func73, Tryz.ntmps73
  go_wp2_with fail
  refine (walk_any 89 #[.pointer (some ⟨w.heap.size + 1, 0, none⟩), .pointer (some ⟨w.heap.size + 1 + 1, 0, none⟩)] (fun _ _ => by kernel_rfl) (SizeI (w.heap.size + 1) (w.heap.size + 1 + 1)) (fun _ st => st.1 ≤ 4096) sizeStep
    (fun _ st p d _ h => by simp [sizeStep] at h ⊢; omega) (fun b => b = w.heap.size + 1 ∨ b = w.heap.size + 1 + 1) (fun b => b < w.heap.size ∨ b = w.heap.size) 500000000 (by omega) ?cl 100000000 p 0 (0, 0) w.heap.size 0 1 _ hsz (by omega) ?i (by simp) ?pt ?sf).mono ?_
  case cl =>
    intro _ st p b o d w' hi hg _ _ hd
    exact size1_any _ _ (by omega) st p _ d w' hi (by omega) hg
  case i => exact ⟨(Cel.new' (by simp)).alloc _, Cel.new' (by simp)⟩
  case pt => exact PatAt.same (fun b hb => by rw [Below.heap_alloc, Below.heap_alloc] <;> simp <;> omega) (fun _ h => h) _ _ _ hb
  case sf => intro b hb; simp; omega
  rintro e w1 ⟨rfl, hI1, hk1⟩
  obtain ⟨h1, h2⟩ := hI1
  have hK : Kept Nix w w1 := (((Kept.refl Nix w).alloc _).alloc _).alloc _ |>.step hk1 (by simp; omega)
  have q1 := h1.cell; have q2 := h2.cell; have f1 := h1.free; have f2 := h2.free
  have HK := Lib.hid hK; clear hK hk1 hb hp h1 h2
  cases hr : walkF sizeStep (0, 0) p 1 with
  | mk st ok =>
  obtain ⟨n, d⟩ := st
  have Hr : Hid (sizeF p = sizeR ((n, d), ok)) := by simp [sizeF, hr, Hid]
  rw [hr] at q1 q2; clear hr
  dsimp only at q1 q2
  have K1 : ∀ a b, Kept Nix w ((w1.setCell ⟨w.heap.size + 1, 0, none⟩ a).setCell ⟨w.heap.size + 1 + 1, 0, none⟩ b) := fun a b => (HK.out.setCell (.inr (by simp)) _).setCell (.inr (by simp; omega)) _
  have HK1 := Lib.hid K1; clear K1
  cases ok with
  | true =>
    go_wp2_with fail
    go_region
    all_goals go_wp2
    all_goals exact bodyPost_ret (v := .tuple #[.int .i64 n, .int .i64 d, .int .i64 0]) (by simp [results, Tryz.results73, go_sem, q1, q2]) rfl ⟨by rw [Hr.out]; rfl, by first | exact (HK1.out _ _).drew | exact (HK1.out _ _)⟩
  | false =>
    go_wp2_with fail
    exact bodyPost_ret (v := .tuple #[.int .i64 0, .int .i64 0, .int .i64 4]) (by simp [results, Tryz.results73, go_sem, q1, q2]) rfl ⟨by rw [Hr.out]; rfl, by first | exact (HK1.out _ _).drew | exact (HK1.out _ _)⟩
end Go.Proofs.YtlnhcgihpclpaaaGreatDoor

namespace Go.Proofs.YtlnhcgihpclpaaaGreatDoor
set_option linter.all false
open Go.RowKit

theorem isEmpty_size {t : ByteArray} : t.toList.isEmpty = true ↔ t.size = 0 := by
  rw [ByteArray.toList_eq]; simp only [List.isEmpty_iff, ByteArray.size]
  rw [← Array.length_toList, List.length_eq_zero_iff]
theorem isEmpty_size' {t : ByteArray} : t.toList.isEmpty = false ↔ 0 < t.size := by
  rw [← Bool.not_eq_true, isEmpty_size]; omega
def upperN (c : UInt8) : Bool := decide (65 ≤ c.toNat) && decide (c.toNat ≤ 90)
def digitN (c : UInt8) : Bool := decide (48 ≤ c.toNat) && decide (c.toNat ≤ 57)
def namedAt (i : Nat) (c : UInt8) : Bool := upperN c || (i != 0 && digitN c)
def namedF (s : ByteArray) : Bool := decide (1 ≤ s.size) && decide (s.size ≤ 16) && (List.range s.size).all fun i => namedAt i (s.data.toList.getD i 0)
theorem getD_at {s : ByteArray} {k : Nat} (h : k < s.size) : s.data.toList.getD k 0 = s[k] := by
  have : k < s.data.toList.length := by simpa using h
  rw [List.getD_eq_getElem?_getD, List.getElem?_eq_getElem this]; rfl
theorem named_no {s : ByteArray} {k : Nat} (h : k < s.size) (hn : namedAt k s[k] = false) : namedF s = false := by
  unfold namedF
  rw [Bool.and_eq_false_iff]; right
  rw [List.all_eq_false]
  exact ⟨k, by simpa using h, by rw [getD_at h, hn]; simp⟩
theorem named_yes {s : ByteArray} (h1 : 1 ≤ s.size) (h2 : s.size ≤ 16) (h : ∀ j, j < s.size → namedAt j (s.data.toList.getD j 0) = true) : namedF s = true := by
  unfold namedF
  simp only [Bool.and_eq_true, decide_eq_true_eq, List.all_eq_true, List.mem_range]
  exact ⟨⟨h1, h2⟩, h⟩
theorem na_upper {i : Nat} {c : UInt8} (h1 : 65 ≤ c.toNat) (h2 : c.toNat ≤ 90) : namedAt i c = true := by simp [namedAt, upperN, h1, h2]
theorem na_digit {i : Nat} {c : UInt8} (h0 : i ≠ 0) (h1 : 48 ≤ c.toNat) (h2 : c.toNat ≤ 57) : namedAt i c = true := by simp [namedAt, digitN, h0, h1, h2]
theorem na_no {i : Nat} {c : UInt8} (h1 : c.toNat < 65 ∨ 90 < c.toNat) (h2 : i = 0 ∨ c.toNat < 48 ∨ 57 < c.toNat) : namedAt i c = false := by
  have a : upperN c = false := by unfold upperN; rcases h1 with h | h <;> simp <;> omega
  unfold namedAt; rw [a]
  rcases h2 with h | h | h
  · simp [h]
  · simp [digitN]; intro; omega
  · simp [digitN]; omega

set_option maxHeartbeats 400000 in
theorem named_any (s : ByteArray) (w : World) (hs : s.size ≤ maxLen) :
    Calls Tryz.prog 51 #[.string s] w fun e w' => e = .returned (.bool (namedF s)) ∧ w = w' := by
  unfold maxLen at hs
  by_cases h0 : s.size < 1
  · go_enter Tryz.func51, Tryz.ntmps51
    go_wp2
    go_ret
    exact ⟨by unfold namedF; rw [decide_eq_false (by omega)]; rfl, rfl⟩
  by_cases h1 : 16 < s.size
  · go_enter Tryz.func51, Tryz.ntmps51
    go_wp2
    go_ret
    exact ⟨by unfold namedF; rw [decide_eq_false (show ¬ s.size ≤ 16 by omega)]; simp, rfl⟩
  go_enter Tryz.func51, Tryz.ntmps51
  go_wp2
  go_loop [15] (fun i => ∃ k : Nat, k ≤ s.size ∧ i = .int .i64 k ∧ Hid (∀ j, j < k → namedAt j (s.data.toList.getD j 0) = true)) (fun i => s.size - (intOf i).toNat)
  case atStart => exact ⟨0, Nat.zero_le _, rfl, by intro j hj; omega⟩
  case round =>
    obtain ⟨k, hk, rfl, hok⟩ := hrel
    by_cases hlt : k < s.size
    · have step : namedAt k s[k] = true → ∀ j, j < k + 1 → namedAt j (s.data.toList.getD j 0) = true := by
        intro hn j hj
        rcases Nat.lt_or_ge j k with h | h
        · exact hok.out j h
        · obtain rfl : j = k := by omega
          rw [getD_at hlt]; exact hn
      have Step := Lib.hid step; clear step
      rcases (show (65 ≤ s[k].toNat ∧ s[k].toNat ≤ 90) ∨ ((s[k].toNat < 65 ∨ 90 < s[k].toNat) ∧ k = 0) ∨ ((48 ≤ s[k].toNat ∧ s[k].toNat ≤ 57) ∧ 0 < k) ∨ ((s[k].toNat < 48 ∨ (57 < s[k].toNat ∧ s[k].toNat < 65)) ∧ 0 < k) ∨ (90 < s[k].toNat ∧ 0 < k) by omega) with ⟨a, b⟩ | ⟨a, b⟩ | ⟨⟨a, b⟩, c⟩ | ⟨a, c⟩ | ⟨a, c⟩
      · go_wp2
        go_round
        case rel => exact ⟨k + 1, by omega, by go_num, Step.out (na_upper a b)⟩
        case measure => simp [intOf]; omega
      · have fin := Lib.hid (named_no hlt (na_no a (.inl b)))
        subst b
        rcases a with a | a
        · go_wp2
          go_ret
          exact ⟨by rw [fin.out]; try rfl, rfl⟩
        · have q : decide ((s[0].toNat : Int) ≤ 90) = false := decide_eq_false (by omega)
          go_wp2
          go_ret
          exact ⟨by rw [fin.out]; try rfl, rfl⟩
      · have z : ((k : Int) == 0) = false := by simp; omega
        have q : decide ((s[k].toNat : Int) ≤ 57) = true := decide_eq_true (by omega)
        go_wp2
        go_round
        case rel => exact ⟨k + 1, by omega, by go_num, Step.out (na_digit (by omega) a b)⟩
        case measure => simp [intOf]; omega
      · have fin := Lib.hid (named_no hlt (na_no (by omega) (.inr (by omega))))
        have z : ((k : Int) == 0) = false := by simp; omega
        rcases a with a | ⟨a, b⟩ <;>
        · try have q : decide ((s[k].toNat : Int) ≤ 57) = false := decide_eq_false (by omega)
          go_wp2
          go_ret
          exact ⟨by rw [fin.out]; try rfl, rfl⟩
      · have fin := Lib.hid (named_no hlt (na_no (by omega) (.inr (by omega))))
        have z : ((k : Int) == 0) = false := by simp; omega
        have q : decide ((s[k].toNat : Int) ≤ 90) = false := decide_eq_false (by omega)
        have q' : decide ((s[k].toNat : Int) ≤ 57) = false := decide_eq_false (by omega)
        go_wp2
        go_ret
        exact ⟨by rw [fin.out]; try rfl, rfl⟩
    · obtain rfl : k = s.size := by omega
      have fin := Lib.hid (named_yes (by omega) (by omega) hok.out)
      go_wp2
      go_ret
      exact ⟨by rw [fin.out]; try rfl, rfl⟩
end Go.Proofs.YtlnhcgihpclpaaaGreatDoor

/- What is written is read: words, names, texts, numbers. What is written is read: pieces, gifts, lists. What is written is read: any right pattern. What is written is read: lists, brackets, the whole. -/
import Derived.Test.YtdnglicgmlldlaaDoorShowP
import Derived.Test.YtdnglicgmlldlaaDoorRd5
import Derived.Test.YtdnglicgmlldlaaDoorRd14
namespace Go.Proofs.YtdnglicgmlldlaaDoor
open Go.RowKit

/-- From place i on the text is l, and r behind it. -/
structure Has (s : ByteArray) (i : Nat) (l r : List UInt8) : Prop where
  eq : s.data.toList.drop i = l ++ r
  le : i ≤ s.size
section
variable {s : ByteArray} {i : Nat} {l m r : List UInt8} {c : UInt8}
theorem Has.size (h : Has s i l r) : i + l.length + r.length = s.size := by
  have := congrArg List.length h.eq
  rw [List.length_drop, List.length_append] at this
  have e : s.data.toList.length = s.size := rfl
  have := h.le
  omega
theorem Has.next (h : Has s i (l ++ m) r) : Has s (i + l.length) m r := by
  refine ⟨?_, by have := h.size; simp at this; omega⟩
  rw [← List.drop_drop, h.eq, List.append_assoc, List.drop_left]
theorem Has.split (h : Has s i (l ++ m) r) : Has s i l (m ++ r) := ⟨by rw [h.eq, List.append_assoc], h.le⟩
theorem Has.tail (h : Has s i (c :: l) r) : Has s (i + 1) l r := by simpa using Has.next (l := [c]) (m := l) (by simpa using h)
theorem Has.lt (h : Has s i (c :: l) r) : i < s.size := by have := h.size; simp at this; omega
theorem Has.byte (h : Has s i (c :: l) r) : s[i]'h.lt = c := by
  have := h.eq
  rw [drop_cons h.lt] at this
  exact (List.cons.inj this).1
theorem Has.peek (h : Has s i (c :: l) r) : peek s i = c.toNat := by unfold Go.Proofs.YtdnglicgmlldlaaDoor.peek; rw [dif_pos h.lt, h.byte]
theorem Has.skip (h : Has s i (c :: l) r) (hc : c ≠ 32) : skip s i = i := skip_stop h.lt (by rw [h.byte]; intro e; exact hc (UInt8.toNat_inj.1 (by simpa using e)))
theorem Has.skip1 {d : UInt8} (h : Has s i (32 :: d :: l) r) (hd : d ≠ 32) : Go.Proofs.YtdnglicgmlldlaaDoor.skip s i = i + 1 := by
  rw [skip_blank h.lt (by rw [h.byte]; rfl), h.tail.skip hd]
theorem Has.ends (h : Has s i [] []) : i = s.size := by have := h.size; simpa using this
theorem Has.rest (h : Has s i [] (c :: r)) : Has s i [c] r := ⟨by rw [h.eq]; rfl, h.le⟩
theorem Has.done (h : Has s i l r) : Has s (i + l.length) [] r := Has.next (m := []) (by simpa using h)
end
/-- No byte comes for which f holds. -/
def Not1 (f : UInt8 → Bool) (r : List UInt8) : Prop := ∀ c t, r = c :: t → f c = false
theorem takeWhile_app {f : UInt8 → Bool} : ∀ {l r : List UInt8}, (∀ c ∈ l, f c = true) → Not1 f r → (l ++ r).takeWhile f = l
  | [], [], _, _ => rfl
  | [], c :: t, _, h => by rw [List.nil_append, List.takeWhile_cons, if_neg (by simp [h c t rfl])]
  | c :: l, r, h, hr => by
    rw [List.cons_append, List.takeWhile_cons, if_pos (h c (by simp)), takeWhile_app (fun d hd => h d (by simp [hd])) hr]
theorem word_read {s : ByteArray} {i : Nat} {c : UInt8} {l r : List UInt8} (hw : ∀ d ∈ c :: l, isW d = true) (hc : 65 ≤ c.toNat ∧ c.toNat ≤ 90) (h : Has s i (c :: l) r) (hr : Not1 isW r) :
    wordP s i = .ok ((⟨(c :: l).toArray⟩, i), i + (c :: l).length) := by
  have h1 : skip s i = i := h.skip (by intro e; subst e; revert hc; decide)
  have h2 : runEnd isW s i = i + (c :: l).length := by unfold runEnd; rw [h.eq, takeWhile_app hw hr]
  have h3 : s.extract i (i + (c :: l).length) = ⟨(c :: l).toArray⟩ := by
    apply ByteArray.ext
    apply Array.ext'
    have : (s.extract i (i + (c :: l).length)).data.toList = (s.data.toList.drop i).take (c :: l).length := by simp
    rw [this, h.eq, List.take_left]
  unfold wordP
  rw [h1, if_pos (by rw [h.peek]; omega), h2, h3]
theorem name_read {s : ByteArray} {i : Nat} {nm : ByteArray} {r : List UInt8} (hn : namedF nm = true) (h : Has s i nm.data.toList r) (hr : Not1 isW r) : nameP s i = .ok (nm, i + nm.data.toList.length) := by
  obtain ⟨x, hx⟩ : ∃ x, x = nm.data.toList := ⟨_, rfl⟩
  have e : nm.data.toList.length = nm.size := rfl
  have hs := named_size hn
  unfold namedF at hn
  simp only [Bool.and_eq_true, decide_eq_true_eq, List.all_eq_true, List.mem_range] at hn
  obtain ⟨⟨h1, _⟩, h2⟩ := hn
  rw [← hx] at h h2 ⊢
  rw [← e, ← hx] at h1 h2
  cases x with
  | nil => simp at h1
  | cons c l =>
    have h0 := h2 0 (by simp)
    have hw : ∀ d ∈ c :: l, isW d = true := by
      intro d hd
      obtain ⟨j, hj, rfl⟩ := List.getElem_of_mem hd
      have := h2 j hj
      rw [List.getD_eq_getElem?_getD, List.getElem?_eq_getElem hj] at this
      simp only [Option.getD_some] at this
      unfold namedAt at this
      unfold isW
      revert this
      cases upperN (c :: l)[j] <;> cases digitN (c :: l)[j] <;> simp
    have hc : 65 ≤ c.toNat ∧ c.toNat ≤ 90 := by
      simp only [List.getD_cons_zero] at h0
      unfold namedAt upperN at h0
      simpa using h0
    unfold nameP
    rw [word_read hw hc h hr]
    have en : (⟨(c :: l).toArray⟩ : ByteArray) = nm := by rw [hx]
    rw [en]
    dsimp only
    rw [if_neg (by omega)]
theorem txt_read : ∀ (l r : List UInt8), Not1 (fun c => c == 39) r → txtL (dupQ l ++ 39 :: r) = some (l, (dupQ l).length + 1)
  | [], [], _ => rfl
  | [], d :: r, h => by
    have hd : ¬ d = 39 := by have := h d r rfl; simpa using this
    show txtL (39 :: d :: r) = _
    rw [txtL, if_pos rfl, if_neg hd]; rfl
  | c :: l, r, h => by
    have ih := txt_read l r h
    by_cases hc : c = 39
    · subst hc
      rw [dupQ, if_pos rfl]
      show txtL (39 :: 39 :: (dupQ l ++ 39 :: r)) = _
      rw [txtL, if_pos rfl, if_pos rfl, ih]; rfl
    · rw [dupQ, if_neg hc, List.cons_append]
      cases hx : dupQ l ++ 39 :: r with
      | nil => simp at hx
      | cons d t =>
        rw [txtL, if_neg hc, ← hx, ih]; rfl
theorem text_read {s : ByteArray} {i : Nat} {t : ByteArray} {r : List UInt8} (h : Has s i (quoteL t) r) (hr : Not1 (fun c => c == 39) r) : textP s i = .ok ((t, i), i + (quoteL t).length) := by
  unfold quoteL at h
  have hn : needP 39 s i = .ok (i + 1) := by
    unfold needP; rw [h.skip (by decide), if_pos (by rw [h.peek]; rfl)]
  unfold textP
  rw [hn]
  dsimp only
  have ht := h.tail
  rw [ht.eq, List.append_assoc, List.singleton_append, txt_read _ _ hr]
  unfold textR
  simp only [List.nil_append, quoteL, List.length_cons, List.length_append, List.length_nil]
  have e1 : i + 1 - 1 = i := by omega
  have e2 : i + 1 + ((dupQ t.data.toList).length + 1) = i + ((dupQ t.data.toList).length + (0 + 1) + 1) := by omega
  rw [e1, e2]
theorem dig_step {s : ByteArray} {k : Nat} {c : UInt8} {r : List UInt8} {d : Nat} (hd : d < 10) (hc : c = UInt8.ofNat (48 + d)) (h : Has s k [c] r) : isD s k = true ∧ (peek s k).toNat - 48 = d ∧ peek s k = 48 + (d : Int) := by
  have hp := h.peek
  have : c.toNat = 48 + d := by rw [hc]; simp; omega
  unfold isD
  rw [hp, this]
  refine ⟨by simp; omega, by omega, by omega⟩
theorem num_steps {s : ByteArray} {j : Nat} : ∀ (g u : Nat), u < 10 ^ g → u ≤ 65536 → ∀ (r : List UInt8) (f : Nat), Has s j (Lib.decDigits u) r → (Lib.decDigits u).length ≤ f →
    numGo s j f j 0 = numGo s j (f - (Lib.decDigits u).length) (j + (Lib.decDigits u).length) u
  | 0, u, h, _, r, f, hh, hf => by
    have : u = 0 := by simpa using h
    subst this
    rw [Lib.decDigits, dif_pos (by omega)] at hh hf ⊢
    obtain ⟨f, rfl⟩ : ∃ f', f = f' + 1 := ⟨f - 1, by simp at hf; omega⟩
    obtain ⟨h1, h2, _⟩ := dig_step (d := 0) (by omega) rfl hh
    rw [numGo, if_pos h1, if_neg (by omega), if_neg (by rw [h2]; omega), h2]
    simp
  | g + 1, u, hg, h6, r, f, hh, hf => by
    by_cases hu : u < 10
    · rw [Lib.decDigits, dif_pos hu] at hh hf ⊢
      obtain ⟨f, rfl⟩ : ∃ f', f = f' + 1 := ⟨f - 1, by simp at hf; omega⟩
      obtain ⟨h1, h2, _⟩ := dig_step hu rfl hh
      rw [numGo, if_pos h1, if_neg (by omega), if_neg (by rw [h2]; omega), h2]
      simp
    · have hd : Lib.decDigits u = Lib.decDigits (u / 10) ++ [UInt8.ofNat (48 + u % 10)] := by rw [Lib.decDigits, dif_neg hu]
      rw [hd] at hh hf ⊢
      rw [List.length_append] at hf ⊢
      simp only [List.length_cons, List.length_nil] at hf ⊢
      have ih := num_steps (s := s) (j := j) g (u / 10) (by rw [Nat.pow_succ] at hg; omega) (by omega) _ f hh.split (by omega)
      rw [ih]
      have hn := hh.next
      obtain ⟨h1, h2, _⟩ := dig_step (d := u % 10) (by omega) rfl hn
      obtain ⟨f', hf'⟩ : ∃ f', f - (Lib.decDigits (u / 10)).length = f' + 1 := ⟨f - (Lib.decDigits (u / 10)).length - 1, by omega⟩
      rw [hf', numGo, if_pos h1, h2]
      rw [if_neg, if_neg (by omega)]
      · have e1 : f - ((Lib.decDigits (u / 10)).length + (0 + 1)) = f' := by omega
        have e2 : 10 * (u / 10) + u % 10 = u := by omega
        rw [e1, e2]; rfl
      · rintro ⟨hk, hz⟩
        have hl : (Lib.decDigits (u / 10)).length = 1 := by omega
        by_cases hq : u / 10 < 10
        · have hx := hh.split
          rw [Lib.decDigits, dif_pos hq] at hx
          have := (dig_step hq rfl ⟨hx.eq, hx.le⟩).2.2
          omega
        · rw [Lib.decDigits, dif_neg hq, List.length_append] at hl
          have : 0 < (Lib.decDigits (u / 10 / 10)).length := by rw [Lib.decDigits]; split <;> simp
          simp only [List.length_cons, List.length_nil] at hl; omega
theorem num_read {s : ByteArray} {i n : Nat} {r : List UInt8} (hn : n ≤ 65536) (h : Has s i (Lib.decDigits n) r) (hr : Not1 digitN r) : numP s i = .ok (n, i + (Lib.decDigits n).length) := by
  obtain ⟨c, l, hd, hc⟩ : ∃ c l, Lib.decDigits n = c :: l ∧ 48 ≤ c.toNat ∧ c.toNat ≤ 57 := by
    have key : ∀ (g u : Nat), u < 10 ^ g → ∃ c l, Lib.decDigits u = c :: l ∧ 48 ≤ c.toNat ∧ c.toNat ≤ 57 := by
      intro g
      induction g with
      | zero => intro u hu; have : u = 0 := by simpa using hu
                subst this; exact ⟨48, [], by rw [Lib.decDigits, dif_pos (by omega)]; rfl, by decide, by decide⟩
      | succ g ih =>
        intro u hu
        by_cases h10 : u < 10
        · refine ⟨UInt8.ofNat (48 + u), [], by rw [Lib.decDigits, dif_pos h10], ?_, ?_⟩ <;> simp <;> omega
        · obtain ⟨c, l, h1, h2⟩ := ih (u / 10) (by rw [Nat.pow_succ] at hu; omega)
          exact ⟨c, l ++ [UInt8.ofNat (48 + u % 10)], by rw [Lib.decDigits, dif_neg h10, h1]; rfl, h2⟩
    exact key 5 n (by omega)
  have h' := h
  rw [hd] at h'
  have h1 : skip s i = i := h'.skip (by intro e; subst e; revert hc; decide)
  have hlen := dec_len 5 n (by omega)
  have hsz := h.size
  unfold numP
  rw [h1, if_pos (by rw [h'.peek]; omega), num_steps 5 n (by omega) hn r _ h (by omega)]
  have hdone := h.done
  cases hf : s.size - i - (Lib.decDigits n).length with
  | zero => rw [numGo]
  | succ f =>
    rw [numGo, if_neg]
    intro hD
    cases r with
    | nil => simp at hsz; omega
    | cons d t =>
      have hp := hdone.rest.peek
      unfold isD at hD
      rw [hp] at hD
      have := hr d t rfl
      unfold digitN at this
      simp only [Bool.and_eq_true, decide_eq_true_eq] at hD
      rw [Bool.and_eq_false_iff] at this
      simp only [decide_eq_false_iff_not] at this
      omega
end Go.Proofs.YtdnglicgmlldlaaDoor

namespace Go.Proofs.YtdnglicgmlldlaaDoor
open Go.RowKit

mutual
/-- A pattern with what its kinds have alone. -/
def bareT : PatT → PatT
  | .mk k t n nm kids => .mk k (if k = 1 ∨ isTextK k then t else E0) (if isNumK k then n else 0) (if isNameK k then nm else E0) (bareL kids)
def bareL : List PatT → List PatT
  | [] => []
  | p :: r => bareT p :: bareL r
end
theorem bareL_len : ∀ l : List PatT, (bareL l).length = l.length
  | [] => rfl
  | p :: r => by rw [bareL, List.length_cons, bareL_len r, List.length_cons]
mutual
theorem bare_size : ∀ p : PatT, sizeT (bareT p) = sizeT p
  | .mk k t n nm kids => by rw [bareT, sizeT, sizeT, bareL_size kids]
theorem bareL_size : ∀ l : List PatT, sizeL (bareL l) = sizeL l
  | [] => rfl
  | p :: r => by rw [bareL, sizeL, sizeL, bare_size p, bareL_size r]
end
mutual
theorem bare_depth : ∀ p : PatT, depthT (bareT p) = depthT p
  | .mk k t n nm kids => by rw [bareT, depthT, depthT, bareL_depth kids]
theorem bareL_depth : ∀ l : List PatT, depthL (bareL l) = depthL l
  | [] => rfl
  | p :: r => by rw [bareL, depthL, depthL, bare_depth p, bareL_depth r]
end
theorem skip_skip {s : ByteArray} {i : Nat} (hi : i ≤ s.size) : skip s (skip s i) = skip s i := by
  by_cases h : skip s i < s.size
  · refine skip_stop h ?_
    intro hb
    have h2 := hb
    have key : ∀ (l : List UInt8), ∀ c t, l.drop (l.takeWhile fun c => c == (32 : UInt8)).length = c :: t → c ≠ 32 := by
      intro l
      induction l with
      | nil => intro c t h; simp at h
      | cons a l ih =>
        intro c t h
        rw [List.takeWhile_cons] at h
        split at h
        · exact ih c t (by simpa using h)
        · rename_i ha
          simp at h
          intro e; subst e; rw [h.1] at ha; simp at ha
    have hd := drop_cons h
    have : s.data.toList.drop (skip s i) = (s.data.toList.drop i).drop ((s.data.toList.drop i).takeWhile fun c => c == (32 : UInt8)).length := by
      rw [List.drop_drop]; unfold skip; rfl
    rw [this] at hd
    exact key _ _ _ hd (UInt8.toNat_inj.1 (by simpa using hb))
  · exact skip_end (by omega)
/-- What may stand behind a piece. -/
def Fol (r : List UInt8) : Prop := ∀ c t, r = c :: t → c = 32 ∨ c = 41
theorem Fol.word {r : List UInt8} (h : Fol r) : Not1 isW r := fun c t e => by rcases h c t e with rfl | rfl <;> decide
theorem Fol.quote {r : List UInt8} (h : Fol r) : Not1 (fun c => c == 39) r := fun c t e => by rcases h c t e with rfl | rfl <;> decide
theorem Fol.sp (r : List UInt8) : Fol (32 :: r) := fun c t e => .inl (List.cons.inj e).1.symm
theorem Fol.br (r : List UInt8) : Fol (41 :: r) := fun c t e => .inr (List.cons.inj e).1.symm
def NoGift (s : ByteArray) (k : Nat) : Prop := peek s (skip s k) ≠ 46 ∧ peek s (skip s k) ≠ 36
def Stop1 (s : ByteArray) (k : Nat) : Prop := peek s (skip s k) = -1 ∨ peek s (skip s k) = 41 ∨ peek s (skip s k) = 124
def Stop2 (s : ByteArray) (k : Nat) : Prop := peek s (skip s k) = -1 ∨ peek s (skip s k) = 41
theorem Stop2.one {s : ByteArray} {k : Nat} (h : Stop2 s k) : Stop1 s k := h.elim .inl fun h => .inr (.inl h)
theorem Stop1.gift {s : ByteArray} {k : Nat} (h : Stop1 s k) : NoGift s k := by unfold NoGift; rcases h with h | h | h <;> rw [h] <;> decide
theorem Stop1.start {s : ByteArray} {k : Nat} (h : Stop1 s k) : starts (peek s (skip s k)) = false := by rcases h with h | h | h <;> rw [h] <;> decide

theorem gifts_fuel {s : ByteArray} : ∀ (f g : Nat) (p : PatT) (k : Nat), k ≤ s.size → s.size + 1 - k ≤ f → s.size + 1 - k ≤ g → giftsP s f p k = giftsP s g p k := by
  intro f
  induction f with
  | zero => intro g p k hk hf; omega
  | succ f ih =>
    intro g p k hk hf hg
    obtain ⟨g, rfl⟩ : ∃ g', g = g' + 1 := ⟨g - 1, by omega⟩
    rw [giftsP, giftsP]
    have hp46 := isP_le (c := 46) hk
    have hp36 := isP_le (c := 36) hp46.1
    split
    · cases hn : nameP s (isP 46 s k).2 with
      | error e => rfl
      | ok y =>
        obtain ⟨nm, k1⟩ := y
        have := name_ok hp46.1 hn
        exact ih g _ k1 this.2 (by omega) (by omega)
    · split
      · cases hn : nameP s (isP 36 s (isP 46 s k).2).2 with
        | error e => rfl
        | ok y =>
          obtain ⟨nm, k1⟩ := y
          have := name_ok hp36.1 hn
          exact ih g _ k1 this.2 (by omega) (by omega)
      · rfl
theorem gift_stop {s : ByteArray} {f k : Nat} {p : PatT} (hk : k ≤ s.size) (h : NoGift s k) : giftsP s (f + 1) p k = .ok (p, skip s k) := by
  have e : isP 46 s k = (false, skip s k) := if_neg h.1
  have e2 : isP 36 s (skip s k) = (false, skip s k) := by unfold isP; rw [skip_skip hk]; exact if_neg h.2
  rw [giftsP, e, if_neg (by simp)]
  dsimp only
  rw [e2, if_neg (by simp)]
theorem name_at {s : ByteArray} {k : Nat} {nm : ByteArray} {r : List UInt8} (hn : namedF nm = true) (h : Has s k (32 :: nm.data.toList) r) (hr : Not1 isW r) : nameP s k = .ok (nm, k + 1 + nm.data.toList.length) := by
  have h1 := name_read hn h.tail hr
  have hsk : skip s k = skip s (k + 1) := skip_blank h.lt (by rw [h.byte]; rfl)
  have hw : wordP s k = wordP s (k + 1) := by unfold wordP; rw [hsk]
  unfold nameP at h1 ⊢
  rw [hw]; exact h1
theorem gift_go {s : ByteArray} {f k : Nat} {p : PatT} {c : UInt8} {kd : Int} {nm : ByteArray} {r : List UInt8} (hc : (c = 46 ∧ kd = 21) ∨ (c = 36 ∧ kd = 22)) (hn : namedF nm = true) (h : Has s k (32 :: c :: 32 :: nm.data.toList) r) (hr : Not1 isW r) :
    giftsP s (f + 1) p k = giftsP s f (.mk kd E0 0 nm [p]) (k + (32 :: c :: 32 :: nm.data.toList).length) := by
  have hsk : skip s k = k + 1 := h.skip1 (by rcases hc with ⟨rfl, _⟩ | ⟨rfl, _⟩ <;> decide)
  have hpk := h.tail.peek
  have hnm := name_at hn h.tail.tail hr
  have el : k + (32 :: c :: 32 :: nm.data.toList).length = k + 1 + 1 + 1 + nm.data.toList.length := by simp; omega
  rw [giftsP, el]
  rcases hc with ⟨rfl, rfl⟩ | ⟨rfl, rfl⟩
  · have e : isP 46 s k = (true, k + 1 + 1) := by unfold isP; rw [hsk]; exact if_pos (by rw [hpk]; rfl)
    rw [e, if_pos rfl, hnm]
  · have e : isP 46 s k = (false, k + 1) := by unfold isP; rw [hsk]; exact if_neg (by rw [hpk]; decide)
    have e2 : isP 36 s (k + 1) = (true, k + 1 + 1) := by
      unfold isP; rw [show skip s (k + 1) = k + 1 from h.tail.skip (by decide)]; exact if_pos (by rw [hpk]; rfl)
    rw [e, if_neg (by simp)]
    dsimp only
    rw [e2, if_pos rfl, hnm]
theorem item_skip {inner : Nat → Res PatT} {s : ByteArray} {i : Nat} (hi : i ≤ s.size) : itemP inner s (skip s i) = itemP inner s i := by unfold itemP headP isP; rw [skip_skip hi]
theorem cat_skip {inner : Nat → Res PatT} {s : ByteArray} {i : Nat} (hi : i ≤ s.size) : catP inner s (skip s i) = catP inner s i := by unfold catP; rw [item_skip hi]
theorem need_at {s : ByteArray} {k : Nat} {c : UInt8} {r : List UInt8} (hc : c ≠ 32) (h : Has s k [c] r) : needP c.toNat s (skip s k) = .ok (k + 1) := by
  unfold needP
  have h1 := h.skip hc
  rw [h1, h1, if_pos h.peek]
end Go.Proofs.YtdnglicgmlldlaaDoor

namespace Go.Proofs.YtdnglicgmlldlaaDoor
open Go.RowKit

def ItemRead (s : ByteArray) (inner : Nat → Res PatT) (p : PatT) : Prop := ∀ i r, Has s i (showF p 0) r → Fol r → itemP inner s i = giftsP s (s.size + 1 - (i + (showF p 0).length)) (bareT p) (i + (showF p 0).length)
def CatRead (s : ByteArray) (inner : Nat → Res PatT) (p : PatT) : Prop := ∀ i r, Has s i (showF p 1) r → Fol r → Stop1 s (i + (showF p 1).length) → catP inner s i = .ok (bareT p, skip s (i + (showF p 1).length))
def AltRead (s : ByteArray) (inner : Nat → Res PatT) (p : PatT) : Prop := ∀ i r, Has s i (showF p 2) r → Fol r → Stop2 s (i + (showF p 2).length) → altP inner s i = .ok (bareT p, skip s (i + (showF p 2).length))
theorem node_more {p : PatT} (h : nodeF p = 0) : (isTextK p.kind → p.text.size ≠ 0) ∧ (isNameK p.kind → namedF p.name = true) ∧ leastK p.kind ≤ p.kids.length ∧ p.kids.length ≤ mostK p.kind := by
  unfold nodeF at h
  by_cases h1 : p.kind < 1 ∨ 24 < p.kind
  · rw [if_pos h1] at h; cases h
  rw [if_neg h1] at h
  by_cases h2 : (p.kind = 1 ∨ isTextK p.kind) ∧ 65536 < p.text.size
  · rw [if_pos h2] at h; cases h
  rw [if_neg h2] at h
  by_cases h3 : isTextK p.kind ∧ p.text.size = 0
  · rw [if_pos h3] at h; cases h
  rw [if_neg h3] at h
  by_cases h4 : isNumK p.kind ∧ (p.n < 0 ∨ 65536 < p.n)
  · rw [if_pos h4] at h; cases h
  rw [if_neg h4] at h
  by_cases h5 : isNameK p.kind ∧ namedF p.name = false
  · rw [if_pos h5] at h; cases h
  rw [if_neg h5] at h
  by_cases h6 : p.kids.length < leastK p.kind ∨ mostK p.kind < p.kids.length
  · rw [if_pos h6] at h; cases h
  refine ⟨fun a b => h3 ⟨a, b⟩, fun a => ?_, by omega, by omega⟩
  cases hn : namedF p.name with
  | true => rfl
  | false => exact absurd ⟨a, hn⟩ h5
theorem most_zero {k : Int} (h : k < 18 ∨ 22 < k) : mostK k = 0 := by unfold mostK; rw [if_neg (by omega), if_neg (by omega)]
def wordKinds : List Nat := [2, 3, 4, 5, 6, 7, 8, 9, 10, 11, 12, 13, 14, 15, 16, 17, 20]
theorem word_facts (kk : Nat) (h : kk ∈ wordKinds) : ∃ c l, wordL kk = c :: l ∧ (65 ≤ c.toNat ∧ c.toNat ≤ 90) ∧ (∀ d ∈ c :: l, isW d = true) ∧ kindOf ⟨(c :: l).toArray⟩ = kk := by
  simp only [wordKinds, List.mem_cons, List.not_mem_nil, or_false] at h
  rcases h with rfl | rfl | rfl | rfl | rfl | rfl | rfl | rfl | rfl | rfl | rfl | rfl | rfl | rfl | rfl | rfl | rfl <;> exact ⟨_, _, rfl, by decide, by decide, by decide⟩
theorem head_prim {inner : Nat → Res PatT} {s : ByteArray} {i : Nat} {c : UInt8} {l r : List UInt8} (h : Has s i (c :: l) r) (h32 : c ≠ 32) (h40 : c ≠ 40) : headP inner s i = primaryP inner s i := by
  have e : isP 40 s i = (false, i) := by
    unfold isP; rw [h.skip h32]
    refine if_neg ?_
    rw [h.peek]
    intro e
    have e2 : c.toNat = 40 := by omega
    exact h40 (UInt8.toNat_inj.1 e2)
  unfold headP; rw [e, if_neg (by simp)]
theorem prim_word {inner : Nat → Res PatT} {s : ByteArray} {i kk : Nat} {m r : List UInt8} (hk : kk ∈ wordKinds) (h : Has s i (wordL kk ++ m) r) (hr : Not1 isW (m ++ r)) : headP inner s i = kindP inner s i (i + (wordL kk).length) kk := by
  obtain ⟨c, l, e, hc, hw, hko⟩ := word_facts kk hk
  rw [e] at h ⊢
  have hs := h.split
  have h32 : c ≠ 32 := by intro e; subst e; revert hc; decide
  rw [head_prim hs h32 (by intro e; subst e; revert hc; decide)]
  have hp := hs.peek
  unfold primaryP
  rw [hs.skip h32, if_neg (by rw [hp]; omega), if_neg (by rw [hp]; omega), if_neg (by rw [hp]; omega)]
  unfold wdP
  rw [word_read hw hc hs hr]
  dsimp only
  rw [hko]
theorem need_now {s : ByteArray} {k : Nat} {c : UInt8} {m r : List UInt8} (v : Nat) (hv : v = c.toNat) (hc : c ≠ 32) (h : Has s k (c :: m) r) : needP v s k = .ok (k + 1) := by
  subst hv; unfold needP; rw [h.skip hc, if_pos h.peek]
theorem not40 (r : List UInt8) : Not1 isW (40 :: r) := fun c t e => by obtain rfl := (List.cons.inj e).1.symm; decide
/-- A piece of no gift: what its head reads. -/
theorem item_of_head {s : ByteArray} {inner : Nat → Res PatT} {p : PatT} (h : ∀ i r, Has s i (showF p 0) r → Fol r → headP inner s i = .ok (bareT p, i + (showF p 0).length)) : ItemRead s inner p := by
  intro i r hh hf
  unfold itemP; rw [h i r hh hf]
theorem kids_nil {kids : List PatT} {k : Int} {t nm : ByteArray} {n : Int} (hn : nodeF (.mk k t n nm kids) = 0) (h : k < 18 ∨ 22 < k) : kids = [] := by
  have := (node_more hn).2.2.2
  rw [show (PatT.mk k t n nm kids).kind = k from rfl, most_zero h] at this
  exact List.length_eq_zero_iff.1 (by simpa using this)
theorem bare_leaf {k : Int} {t nm : ByteArray} {n : Int} : bareT (.mk k t n nm []) = .mk k (if k = 1 ∨ isTextK k then t else E0) (if isNumK k then n else 0) (if isNameK k then nm else E0) [] := by rw [bareT, bareL]

theorem read_lit {s : ByteArray} {inner : Nat → Res PatT} {t nm : ByteArray} {n : Int} {kids : List PatT} (hn : nodeF (.mk 1 t n nm kids) = 0) : ItemRead s inner (.mk 1 t n nm kids) := by
  obtain rfl := kids_nil hn (by omega)
  have hs : showF (.mk 1 t n nm []) 0 = quoteL t := by rw [showF, if_pos rfl]
  refine item_of_head fun i r h hf => ?_
  rw [hs] at h ⊢
  have h' := h; unfold quoteL at h'
  rw [head_prim h' (by decide) (by decide)]
  unfold primaryP
  rw [h'.skip (by decide), if_pos (by rw [h'.peek]; rfl)]
  unfold litP
  rw [text_read h hf.quote, bare_leaf]; rfl
theorem read_name {s : ByteArray} {inner : Nat → Res PatT} {k : Int} {t nm : ByteArray} {n : Int} {kids : List PatT} (hk : k = 23 ∨ k = 24) (hn : nodeF (.mk k t n nm kids) = 0) : ItemRead s inner (.mk k t n nm kids) := by
  have hnm : namedF nm = true := (node_more hn).2.1 (by show isNameK k; unfold isNameK; omega)
  obtain rfl := kids_nil hn (by omega)
  rcases hk with rfl | rfl
  · have hs : showF (.mk 23 t n nm []) 0 = 64 :: nm.data.toList := by rw [showF]; rfl
    refine item_of_head fun i r h hf => ?_
    rw [hs] at h ⊢
    rw [head_prim h (by decide) (by decide)]
    unfold primaryP
    rw [h.skip (by decide), if_neg (by rw [h.peek]; decide), if_pos (by rw [h.peek]; rfl)]
    unfold nmP
    rw [name_read hnm h.tail hf.word, bare_leaf]
    have e : i + 1 + nm.data.toList.length = i + (64 :: nm.data.toList).length := by simp; omega
    dsimp only
    rw [e]; rfl
  · have hs : showF (.mk 24 t n nm []) 0 = 42 :: nm.data.toList := by rw [showF]; rfl
    refine item_of_head fun i r h hf => ?_
    rw [hs] at h ⊢
    rw [head_prim h (by decide) (by decide)]
    unfold primaryP
    rw [h.skip (by decide), if_neg (by rw [h.peek]; decide), if_neg (by rw [h.peek]; decide), if_pos (by rw [h.peek]; rfl)]
    unfold nmP
    rw [name_read hnm h.tail hf.word, bare_leaf]
    have e : i + 1 + nm.data.toList.length = i + (42 :: nm.data.toList).length := by simp; omega
    dsimp only
    rw [e]; rfl
theorem read_text {s : ByteArray} {inner : Nat → Res PatT} {kk : Nat} {t nm : ByteArray} {n : Int} {kids : List PatT} (hk : 3 ≤ kk ∧ kk ≤ 7) (hn : nodeF (.mk kk t n nm kids) = 0) : ItemRead s inner (.mk kk t n nm kids) := by
  have ht : t.size ≠ 0 := (node_more hn).1 (by show isTextK kk; unfold isTextK; omega)
  have hk0 : isTextK kk := by unfold isTextK; omega
  obtain rfl := kids_nil hn (by omega)
  have hs : showF (.mk kk t n nm []) 0 = wordL kk ++ (40 :: (quoteL t ++ [41])) := by rw [showF, if_neg (by omega), if_pos hk0]
  refine item_of_head fun i r h hf => ?_
  rw [hs] at h ⊢
  rw [prim_word (by simp [wordKinds]; omega) h (not40 _)]
  have h2 := h.next
  have h3 := h2.tail
  unfold kindP
  rw [if_neg (by omega), if_pos (by omega)]
  unfold argTextP
  rw [need_now 40 rfl (by decide) h2]
  dsimp only
  rw [text_read h3.split (fun c t e => by obtain rfl := (List.cons.inj e).1.symm; decide)]
  dsimp only
  rw [if_neg ht, need_now 41 rfl (by decide) h3.next, bare_leaf, if_pos (.inr hk0), if_neg (by unfold isNumK; omega), if_neg (by unfold isNameK; omega)]
  have e : i + (wordL kk).length + 1 + (quoteL t).length + 1 = i + (wordL kk ++ 40 :: (quoteL t ++ [41])).length := by simp; omega
  dsimp only
  rw [e]
theorem read_num {s : ByteArray} {inner : Nat → Res PatT} {kk : Nat} {t nm : ByteArray} {n : Int} {kids : List PatT} (hk : kk = 2 ∨ (8 ≤ kk ∧ kk ≤ 11)) (hn : nodeF (.mk kk t n nm kids) = 0) : ItemRead s inner (.mk kk t n nm kids) := by
  have hk0 : isNumK kk := by unfold isNumK; omega
  obtain ⟨hn0, hn1⟩ := (node_facts hn).2.2.1 hk0
  obtain rfl := kids_nil hn (by omega)
  have hs : showF (.mk kk t n nm []) 0 = wordL kk ++ (40 :: (Lib.decDigits n.toNat ++ [41])) := by rw [showF, if_neg (by omega), if_neg (by unfold isTextK; omega), if_pos hk0]
  refine item_of_head fun i r h hf => ?_
  rw [hs] at h ⊢
  rw [prim_word (by simp [wordKinds]; omega) h (not40 _)]
  have h2 := h.next
  have h3 := h2.tail
  unfold kindP
  rw [if_neg (by omega), if_neg (by omega), if_pos (by omega)]
  unfold argNumP
  rw [need_now 40 rfl (by decide) h2]
  dsimp only
  rw [num_read (by omega) h3.split (fun c t e => by obtain rfl := (List.cons.inj e).1.symm; decide)]
  dsimp only
  rw [need_now 41 rfl (by decide) h3.next, bare_leaf, if_neg (by unfold isTextK; omega), if_pos hk0, if_neg (by unfold isNameK; omega)]
  have e : i + (wordL kk).length + 1 + (Lib.decDigits n.toNat).length + 1 = i + (wordL kk ++ 40 :: (Lib.decDigits n.toNat ++ [41])).length := by simp; omega
  dsimp only
  rw [e, Int.toNat_of_nonneg hn0]
theorem read_word {s : ByteArray} {inner : Nat → Res PatT} {kk : Nat} {t nm : ByteArray} {n : Int} {kids : List PatT} (hk : 12 ≤ kk ∧ kk ≤ 17) (hn : nodeF (.mk kk t n nm kids) = 0) : ItemRead s inner (.mk kk t n nm kids) := by
  obtain rfl := kids_nil hn (by omega)
  have hs : showF (.mk kk t n nm []) 0 = wordL kk ++ [] := by
    rw [showF, if_neg (by omega), if_neg (by unfold isTextK; omega), if_neg (by unfold isNumK; omega), if_neg (by omega), if_neg (by omega), if_neg (by omega), if_neg (by omega), if_neg (by omega), if_neg (by omega), if_neg (by omega), List.append_nil]
  refine item_of_head fun i r h hf => ?_
  rw [hs] at h ⊢
  rw [prim_word (by simp [wordKinds]; omega) h (by rw [List.nil_append]; exact hf.word)]
  unfold kindP
  rw [if_neg (by omega), if_neg (by omega), if_neg (by omega), if_neg (by omega), bare_leaf, if_neg (by unfold isTextK; omega), if_neg (by unfold isNumK; omega), if_neg (by unfold isNameK; omega), List.append_nil]
end Go.Proofs.YtdnglicgmlldlaaDoor

namespace Go.Proofs.YtdnglicgmlldlaaDoor
open Go.RowKit

/-- The first byte of a written piece. -/
theorem show_head : ∀ (N : Nat) (p : PatT), sizeT p ≤ N → okT p → ∃ c t, showF p 0 = c :: t ∧ starts (c.toNat : Int) = true ∧ c ≠ 32 := by
  intro N
  induction N with
  | zero => intro p h; have := sizeT_pos p; omega
  | succ N ih =>
    intro p hN hok
    obtain ⟨k, t, n, nm, kids⟩ := p
    have hn := hok.self
    obtain ⟨⟨h1, h24⟩, _, _, _, hk1⟩ := node_facts hn
    have wd : ∀ (kk : Nat) (m : List UInt8), kk ∈ wordKinds → ∃ c t, wordL kk ++ m = c :: t ∧ starts (c.toNat : Int) = true ∧ c ≠ 32 := by
      intro kk m hkk
      obtain ⟨c, l, e, hc, _, _⟩ := word_facts kk hkk
      rw [e]
      refine ⟨c, l ++ m, rfl, ?_, ?_⟩
      · unfold starts; simp only [Bool.or_eq_true, Bool.and_eq_true, decide_eq_true_eq]; right; omega
      · intro e; subst e; revert hc; decide
    have kid : 20 < k → k ≤ 22 → ∀ m, ∃ c t, headF kids 0 ++ m = c :: t ∧ starts (c.toNat : Int) = true ∧ c ≠ 32 := by
      intro ha hb m
      match kids, hk1 (by omega), hok.kids, hN with
      | [q], _, hkq, hN =>
        obtain ⟨c, t, e, h2, h3⟩ := ih q (by simp only [sizeT, sizeL] at hN; omega) hkq.head
        rw [headF, e]; exact ⟨c, t ++ m, rfl, h2, h3⟩
    by_cases c1 : k = 1
    · subst c1; rw [showF, if_pos rfl]; exact ⟨39, _, rfl, by decide, by decide⟩
    rw [showF, if_neg c1]
    by_cases c2 : isTextK k
    · rw [if_pos c2]
      unfold isTextK at c2
      obtain ⟨kk, rfl⟩ : ∃ kk : Nat, k = kk := ⟨k.toNat, by omega⟩
      exact wd kk _ (by simp [wordKinds]; omega)
    rw [if_neg c2]
    by_cases c3 : isNumK k
    · rw [if_pos c3]
      unfold isNumK at c3
      obtain ⟨kk, rfl⟩ : ∃ kk : Nat, k = kk := ⟨k.toNat, by omega⟩
      exact wd kk _ (by simp [wordKinds]; omega)
    rw [if_neg c3]
    unfold isTextK at c2; unfold isNumK at c3
    by_cases c4 : k = 20
    · rw [if_pos c4]; exact ⟨65, _, rfl, by decide, by decide⟩
    rw [if_neg c4]
    by_cases c5 : k = 21
    · rw [if_pos c5]; exact kid (by omega) (by omega) _
    rw [if_neg c5]
    by_cases c6 : k = 22
    · rw [if_pos c6]; exact kid (by omega) (by omega) _
    rw [if_neg c6]
    by_cases c7 : k = 23
    · rw [if_pos c7]; exact ⟨64, _, rfl, by decide, by decide⟩
    rw [if_neg c7]
    by_cases c8 : k = 24
    · rw [if_pos c8]; exact ⟨42, _, rfl, by decide, by decide⟩
    rw [if_neg c8]
    by_cases c9 : k = 18
    · rw [if_pos c9]; exact ⟨40, _, rfl, by decide, by decide⟩
    rw [if_neg c9]
    by_cases c10 : k = 19
    · rw [if_pos c10]; exact ⟨40, _, rfl, by decide, by decide⟩
    rw [if_neg c10]
    obtain ⟨kk, rfl⟩ : ∃ kk : Nat, k = kk := ⟨k.toNat, by omega⟩
    have := wd kk [] (by simp [wordKinds]; omega)
    rwa [List.append_nil] at this
theorem item_end {s : ByteArray} {inner : Nat → Res PatT} {p : PatT} (h : ItemRead s inner p) {i : Nat} {r : List UInt8} (hh : Has s i (showF p 0) r) (hf : Fol r) (hg : NoGift s (i + (showF p 0).length)) : itemP inner s i = .ok (bareT p, skip s (i + (showF p 0).length)) := by
  rw [h i r hh hf]
  have := hh.size
  obtain ⟨f, hf⟩ : ∃ f, s.size + 1 - (i + (showF p 0).length) = f + 1 := ⟨s.size - (i + (showF p 0).length), by omega⟩
  rw [hf]; exact gift_stop (by omega) hg
theorem read_gift {s : ByteArray} {inner : Nat → Res PatT} {k : Int} {t nm : ByteArray} {n : Int} {q : PatT} (hk : k = 21 ∨ k = 22) (hn : nodeF (.mk k t n nm [q]) = 0) (hq : ItemRead s inner q) : ItemRead s inner (.mk k t n nm [q]) := by
  have hnm : namedF nm = true := (node_more hn).2.1 (by show isNameK k; unfold isNameK; omega)
  obtain ⟨c, hc, hs⟩ : ∃ c : UInt8, ((c = 46 ∧ k = 21) ∨ (c = 36 ∧ k = 22)) ∧ showF (.mk k t n nm [q]) 0 = showF q 0 ++ (32 :: c :: 32 :: nm.data.toList) := by
    rcases hk with rfl | rfl
    · exact ⟨46, .inl ⟨rfl, rfl⟩, by rw [showF]; simp only [headF]; rfl⟩
    · exact ⟨36, .inr ⟨rfl, rfl⟩, by rw [showF]; simp only [headF]; rfl⟩
  have hb : bareT (.mk k t n nm [q]) = .mk k E0 0 nm [bareT q] := by
    rw [bareT, bareL, bareL, if_neg (by unfold isTextK; omega), if_neg (by unfold isNumK; omega), if_pos (by unfold isNameK; omega)]
  intro i r h hf
  rw [hs] at h
  rw [hs, hb, hq i _ h.split (Fol.sp _)]
  have hnx := h.next
  have hsz := hnx.size
  obtain ⟨f, hfe⟩ : ∃ f, s.size + 1 - (i + (showF q 0).length) = f + 1 := ⟨s.size - (i + (showF q 0).length), by omega⟩
  rw [hfe, gift_go hc hnm hnx hf.word, List.length_append]
  rw [← Nat.add_assoc]
  simp only [List.length_cons] at hsz ⊢
  exact gifts_fuel _ _ _ _ (by omega) (by omega) (by omega)
theorem read_arbno {s : ByteArray} {inner : Nat → Res PatT} {t nm : ByteArray} {n : Int} {q : PatT} (hq : ∀ i r, Has s i (showF q 2) r → Fol r → Stop2 s (i + (showF q 2).length) → inner i = .ok (bareT q, skip s (i + (showF q 2).length))) : ItemRead s inner (.mk 20 t n nm [q]) := by
  have hs : showF (.mk 20 t n nm [q]) 0 = wordL 20 ++ (40 :: (showF q 2 ++ [41])) := by rw [showF]; simp only [headF]; rfl
  refine item_of_head fun i r h hf => ?_
  rw [hs] at h ⊢
  rw [prim_word (kk := 20) (by decide) h (not40 _), show ((20 : Nat) : Int) = (20 : Int) from rfl]
  have h2 := h.next
  have h3 := h2.tail
  have h4 := h3.next
  have hst : Stop2 s (i + (wordL 20).length + 1 + (showF q 2).length) := .inr (by rw [h4.skip (by decide), h4.peek]; rfl)
  unfold kindP
  rw [if_neg (by decide), if_neg (by decide), if_neg (by decide), if_pos (by decide)]
  unfold argPatP
  rw [need_now 40 rfl (by decide) h2]
  dsimp only
  rw [hq _ _ h3.split (Fol.br _) hst]
  dsimp only
  rw [h4.skip (by decide), need_now 41 rfl (by decide) h4]
  have hb : bareT (.mk 20 t n nm [q]) = .mk 20 E0 0 E0 [bareT q] := by
    rw [bareT, bareL, bareL, if_neg (by decide), if_neg (by decide), if_neg (by decide)]
  have e : i + (wordL 20).length + 1 + (showF q 2).length + 1 = i + (wordL 20 ++ 40 :: (showF q 2 ++ [41])).length := by simp; omega
  dsimp only
  rw [hb, e]
/-- A pattern in brackets. -/
theorem read_par {s : ByteArray} {inner : Nat → Res PatT} {p : PatT} (hs : showF p 0 = 40 :: (showF p 2 ++ [41])) (hq : ∀ i r, Has s i (showF p 2) r → Fol r → Stop2 s (i + (showF p 2).length) → inner i = .ok (bareT p, skip s (i + (showF p 2).length))) : ItemRead s inner p := by
  refine item_of_head fun i r h hf => ?_
  rw [hs] at h ⊢
  have h3 := h.tail
  have h4 := h3.next
  have hst : Stop2 s (i + 1 + (showF p 2).length) := .inr (by rw [h4.skip (by decide), h4.peek]; rfl)
  have e : isP 40 s i = (true, i + 1) := by unfold isP; rw [h.skip (by decide)]; exact if_pos (by rw [h.peek]; rfl)
  unfold headP
  rw [e, if_pos rfl]
  dsimp only
  rw [hq _ _ h3.split (Fol.br _) hst]
  dsimp only
  rw [h4.skip (by decide), need_now 41 rfl (by decide) h4]
  have e : i + 1 + (showF p 2).length + 1 = i + (40 :: (showF p 2 ++ [41])).length := by simp; omega
  dsimp only
  rw [e]
theorem fol_join {ps : List PatT} {sep : List UInt8} {i : Nat} {r : List UInt8} (hsep : ∃ t, sep = 32 :: t) (hf : Fol r) : Fol (joinG sep false ps i ++ r) := by
  obtain ⟨t, rfl⟩ := hsep
  cases ps with
  | nil => simpa [joinG] using hf
  | cons p ps => rw [joinG]; exact Fol.sp _
theorem cat_list {s : ByteArray} {inner : Nat → Res PatT} : ∀ (ps : List PatT), (∀ q ∈ ps, ItemRead s inner q ∧ okT q) → ∀ (l : List PatT) (K k0 f : Nat) (r : List UInt8), Has s k0 (joinG [32] false ps 0) r → Fol r → Stop1 s (k0 + (joinG [32] false ps 0).length) →
    skip s K = skip s k0 → K ≤ s.size → s.size + 1 - K ≤ f → catGo inner s f l K = .ok (oneOr 18 (l ++ bareL ps), skip s (k0 + (joinG [32] false ps 0).length))
  | [], _, l, K, k0, f, r, h, hf, hst, hsk, hK, hff => by
    obtain ⟨f, rfl⟩ : ∃ f', f = f' + 1 := ⟨f - 1, by omega⟩
    have e : k0 + (joinG [32] false [] 0).length = k0 := by simp [joinG]
    rw [e] at hst ⊢
    rw [catGo, hsk, if_neg (by simp [hst.start]), bareL, List.append_nil]
  | q :: ps, hps, l, K, k0, f, r, h, hf, hst, hsk, hK, hff => by
    obtain ⟨hq, hoq⟩ := hps q (by simp)
    obtain ⟨c, t, hc, hcs, hc32⟩ := show_head _ q (Nat.le_refl _) hoq
    obtain ⟨f, rfl⟩ : ∃ f', f = f' + 1 := ⟨f - 1, by omega⟩
    have hj : joinG [32] false (q :: ps) 0 = 32 :: (showF q 0 ++ joinG [32] false ps 0) := by rw [joinG]; rfl
    rw [hj] at h hst ⊢
    have h1 := h.tail
    have h2 := h1.split
    have h3 := h1.next
    have hc' := h2; rw [hc] at hc'
    have hcl := hc'.peek
    have hk1 : skip s k0 = k0 + 1 := by rw [skip_blank h.lt (by rw [h.byte]; rfl), hc'.skip hc32]
    have hff2 := fol_join (ps := ps) (i := 0) ⟨[], rfl⟩ hf
    have hng : NoGift s (k0 + 1 + (showF q 0).length) := by
      cases ps with
      | nil =>
        have : k0 + (32 :: (showF q 0 ++ joinG [32] false [] 0)).length = k0 + 1 + (showF q 0).length := by simp [joinG]; omega
        rw [this] at hst; exact hst.gift
      | cons q2 ps =>
        obtain ⟨c2, t2, hc2, hs2, h322⟩ := show_head _ q2 (Nat.le_refl _) (hps q2 (by simp)).2
        have hx : joinG [32] false (q2 :: ps) 0 = 32 :: c2 :: (t2 ++ joinG [32] false ps 0) := by rw [joinG, hc2]; rfl
        rw [hx] at h3
        unfold NoGift
        rw [h3.skip1 h322, h3.tail.peek]
        constructor <;> intro e <;> rw [e] at hs2 <;> revert hs2 <;> decide
    have hsz := h3.size
    have hlen : 1 ≤ (showF q 0).length := by rw [hc]; simp
    have hkk := skip_ge s K
    have hge := skip_ge s (k0 + 1 + (showF q 0).length)
    rw [catGo, hsk, hk1, if_pos (by rw [hcl]; exact hcs), item_end hq h2 hff2 hng]
    dsimp only
    have ih := cat_list ps (fun q hq => hps q (by simp [hq])) (l ++ [bareT q]) (skip s (k0 + 1 + (showF q 0).length)) (k0 + 1 + (showF q 0).length) f r h3 hf (by
      have : k0 + (32 :: (showF q 0 ++ joinG [32] false ps 0)).length = k0 + 1 + (showF q 0).length + (joinG [32] false ps 0).length := by simp; omega
      rw [this] at hst; exact hst) (skip_skip (by omega)) (skip_le (by omega)) (by omega)
    rw [ih]
    have e1 : k0 + 1 + (showF q 0).length + (joinG [32] false ps 0).length = k0 + (32 :: (showF q 0 ++ joinG [32] false ps 0)).length := by simp; omega
    rw [e1, bareL, List.append_assoc]; rfl
end Go.Proofs.YtdnglicgmlldlaaDoor

/- What is written is read: the whole. What is written is read: a right pattern comes back with what its kinds have. What is read is right, and has what its kinds have alone. The text that the law asks first, read (pure). What the reader finds wrong is never nothing (pure). -/
import Derived.Test.YtdnglicgmlldlaaDoorTm3
import Derived.Test.YtdnglicgmlldlaaDoorRd15
namespace Go.Proofs.YtdnglicgmlldlaaDoor
open Go.RowKit

/-- One that is a piece by itself, read as pieces. -/
theorem cat_of_item {s : ByteArray} {inner : Nat → Res PatT} {p : PatT} (h : ItemRead s inner p) (hs : showF p 1 = showF p 0) : CatRead s inner p := by
  intro i r hh hf hst
  rw [hs] at hh hst ⊢
  have hsz := hh.size
  have hge := skip_ge s (i + (showF p 0).length)
  have hle : skip s (i + (showF p 0).length) ≤ s.size := skip_le (by omega)
  rw [catP, item_end h hh hf hst.gift]
  dsimp only
  obtain ⟨f, hfe⟩ : ∃ f, s.size + 1 - skip s (i + (showF p 0).length) = f + 1 := ⟨s.size - skip s (i + (showF p 0).length), by omega⟩
  rw [hfe, catGo, skip_skip (by omega), if_neg (by simp [hst.start])]
  rfl
theorem alt_of_cat {s : ByteArray} {inner : Nat → Res PatT} {p : PatT} (h : CatRead s inner p) (hs : showF p 2 = showF p 1) : AltRead s inner p := by
  intro i r hh hf hst
  rw [hs] at hh hst ⊢
  have hsz := hh.size
  have hge := skip_ge s (i + (showF p 1).length)
  have hle : skip s (i + (showF p 1).length) ≤ s.size := skip_le (by omega)
  have hno : isP 124 s (skip s (i + (showF p 1).length)) = (false, skip s (i + (showF p 1).length)) := by
    unfold isP; rw [skip_skip (by omega)]
    exact if_neg (by rcases hst with h | h <;> rw [h] <;> decide)
  rw [altP, h i r hh hf hst.one]
  dsimp only
  obtain ⟨f, hfe⟩ : ∃ f, s.size + 1 - skip s (i + (showF p 1).length) = f + 1 := ⟨s.size - skip s (i + (showF p 1).length), by omega⟩
  rw [hfe, altGo, hno, if_neg (by simp)]
  rfl
theorem oneOr_two (kd : Int) (a b : PatT) (l : List PatT) : oneOr kd (a :: b :: l) = .mk kd E0 0 E0 (a :: b :: l) := rfl
theorem cat18 {s : ByteArray} {inner : Nat → Res PatT} {t nm : ByteArray} {n : Int} {kids : List PatT} (h2 : 2 ≤ kids.length) (hk : ∀ q ∈ kids, ItemRead s inner q ∧ okT q) : CatRead s inner (.mk 18 t n nm kids) := by
  match kids, h2 with
  | q :: q2 :: ps, _ =>
    obtain ⟨hq, hoq⟩ := hk q (by simp)
    intro i r hh hf hst
    have hs : showF (.mk 18 t n nm (q :: q2 :: ps)) 1 = showF q 0 ++ joinG [32] false (q2 :: ps) 0 := by rw [showF]; show parL (decide (1 < 1)) _ = _; rw [joinG]; rfl
    rw [hs] at hh hst ⊢
    have h3 := hh.next
    obtain ⟨c2, t2, hc2, hs2, h322⟩ := show_head _ q2 (Nat.le_refl _) (hk q2 (by simp)).2
    have hng : NoGift s (i + (showF q 0).length) := by
      have hx : joinG [32] false (q2 :: ps) 0 = 32 :: c2 :: (t2 ++ joinG [32] false ps 0) := by rw [joinG, hc2]; rfl
      rw [hx] at h3
      unfold NoGift
      rw [h3.skip1 h322, h3.tail.peek]
      constructor <;> intro e <;> rw [e] at hs2 <;> revert hs2 <;> decide
    have hsz := h3.size
    have hge := skip_ge s (i + (showF q 0).length)
    have hle : skip s (i + (showF q 0).length) ≤ s.size := skip_le (by omega)
    rw [catP, item_end hq hh.split (fol_join ⟨[], rfl⟩ hf) hng]
    dsimp only
    rw [cat_list (q2 :: ps) (fun x hx => hk x (by simp at hx ⊢; right; exact hx)) [bareT q] _ (i + (showF q 0).length) _ r h3 hf (by rw [List.length_append, ← Nat.add_assoc] at hst; exact hst) (skip_skip (by omega)) hle (Nat.le_refl _)]
    rw [List.length_append, ← Nat.add_assoc]
    have hb : bareT (.mk 18 t n nm (q :: q2 :: ps)) = .mk 18 E0 0 E0 (bareT q :: bareT q2 :: bareL ps) := by
      rw [bareT, bareL, bareL, if_neg (by decide), if_neg (by decide), if_neg (by decide)]
    rw [hb, bareL]; rfl
theorem alt_list {s : ByteArray} {inner : Nat → Res PatT} : ∀ (ps : List PatT), (∀ q ∈ ps, CatRead s inner q) → ∀ (l : List PatT) (K k0 f : Nat) (r : List UInt8), Has s k0 (joinG [32, 124, 32] false ps 1) r → Fol r → Stop2 s (k0 + (joinG [32, 124, 32] false ps 1).length) →
    skip s K = skip s k0 → K ≤ s.size → s.size + 1 - K ≤ f → altGo inner s f l K = .ok (oneOr 19 (l ++ bareL ps), skip s (k0 + (joinG [32, 124, 32] false ps 1).length))
  | [], _, l, K, k0, f, r, h, hf, hst, hsk, hK, hff => by
    obtain ⟨f, rfl⟩ : ∃ f', f = f' + 1 := ⟨f - 1, by omega⟩
    have e : k0 + (joinG [32, 124, 32] false [] 1).length = k0 := by simp [joinG]
    rw [e] at hst ⊢
    have hno : isP 124 s K = (false, skip s k0) := by unfold isP; rw [hsk]; exact if_neg (by rcases hst with h | h <;> rw [h] <;> decide)
    rw [altGo, hno, if_neg (by simp), bareL, List.append_nil]
  | q :: ps, hps, l, K, k0, f, r, h, hf, hst, hsk, hK, hff => by
    have hq := hps q (by simp)
    obtain ⟨f, rfl⟩ : ∃ f', f = f' + 1 := ⟨f - 1, by omega⟩
    have hj : joinG [32, 124, 32] false (q :: ps) 1 = 32 :: 124 :: 32 :: (showF q 1 ++ joinG [32, 124, 32] false ps 1) := by rw [joinG]; rfl
    rw [hj] at h hst ⊢
    have h1 := h.tail.tail
    have h2 := h1.tail.split
    have h3 := h1.tail.next
    have hk1 : skip s k0 = k0 + 1 := h.skip1 (by decide)
    have hyes : isP 124 s K = (true, k0 + 1 + 1) := by unfold isP; rw [hsk, hk1]; exact if_pos (by rw [h.tail.peek]; rfl)
    have hs2 : skip s (k0 + 1 + 1) = skip s (k0 + 1 + 1 + 1) := skip_blank h1.lt (by rw [h1.byte]; rfl)
    have hsz := h3.size
    have hff2 := fol_join (ps := ps) (i := 1) ⟨[124, 32], rfl⟩ hf
    have hst1 : Stop1 s (k0 + 1 + 1 + 1 + (showF q 1).length) := by
      cases ps with
      | nil =>
        have : k0 + (32 :: 124 :: 32 :: (showF q 1 ++ joinG [32, 124, 32] false [] 1)).length = k0 + 1 + 1 + 1 + (showF q 1).length := by simp [joinG]; omega
        rw [this] at hst; exact hst.one
      | cons q2 ps =>
        have hx : joinG [32, 124, 32] false (q2 :: ps) 1 = 32 :: 124 :: 32 :: (showF q2 1 ++ joinG [32, 124, 32] false ps 1) := by rw [joinG]; rfl
        rw [hx] at h3
        exact .inr (.inr (by rw [h3.skip1 (by decide), h3.tail.peek]; rfl))
    have hkk := skip_ge s K
    have hge := skip_ge s (k0 + 1 + 1 + 1 + (showF q 1).length)
    have hcat : catP inner s (k0 + 1 + 1) = catP inner s (k0 + 1 + 1 + 1) := by rw [← cat_skip (i := k0 + 1 + 1) (by omega), hs2, cat_skip (by omega)]
    rw [altGo, hyes, if_pos rfl]
    dsimp only
    rw [hcat, hq _ _ h2 hff2 hst1]
    dsimp only
    have ih := alt_list ps (fun q hq => hps q (by simp [hq])) (l ++ [bareT q]) (skip s (k0 + 1 + 1 + 1 + (showF q 1).length)) (k0 + 1 + 1 + 1 + (showF q 1).length) f r h3 hf (by
      have : k0 + (32 :: 124 :: 32 :: (showF q 1 ++ joinG [32, 124, 32] false ps 1)).length = k0 + 1 + 1 + 1 + (showF q 1).length + (joinG [32, 124, 32] false ps 1).length := by simp; omega
      rw [this] at hst; exact hst) (skip_skip (by omega)) (skip_le (by omega)) (by omega)
    rw [ih]
    have e1 : k0 + 1 + 1 + 1 + (showF q 1).length + (joinG [32, 124, 32] false ps 1).length = k0 + (32 :: 124 :: 32 :: (showF q 1 ++ joinG [32, 124, 32] false ps 1)).length := by simp; omega
    rw [e1, bareL, List.append_assoc]; rfl
theorem alt19 {s : ByteArray} {inner : Nat → Res PatT} {t nm : ByteArray} {n : Int} {kids : List PatT} (h2 : 2 ≤ kids.length) (hk : ∀ q ∈ kids, CatRead s inner q) : AltRead s inner (.mk 19 t n nm kids) := by
  match kids, h2 with
  | q :: q2 :: ps, _ =>
    have hq := hk q (by simp)
    intro i r hh hf hst
    have hs : showF (.mk 19 t n nm (q :: q2 :: ps)) 2 = showF q 1 ++ joinG [32, 124, 32] false (q2 :: ps) 1 := by rw [showF]; show parL (decide (2 < 2)) _ = _; rw [joinG]; rfl
    rw [hs] at hh hst ⊢
    have h3 := hh.next
    have hst1 : Stop1 s (i + (showF q 1).length) := by
      have hx : joinG [32, 124, 32] false (q2 :: ps) 1 = 32 :: 124 :: 32 :: (showF q2 1 ++ joinG [32, 124, 32] false ps 1) := by rw [joinG]; rfl
      rw [hx] at h3
      exact .inr (.inr (by rw [h3.skip1 (by decide), h3.tail.peek]; rfl))
    have hsz := h3.size
    have hge := skip_ge s (i + (showF q 1).length)
    have hle : skip s (i + (showF q 1).length) ≤ s.size := skip_le (by omega)
    rw [altP, hq _ _ hh.split (fol_join ⟨[124, 32], rfl⟩ hf) hst1]
    dsimp only
    rw [alt_list (q2 :: ps) (fun x hx => hk x (by simp at hx ⊢; right; exact hx)) [bareT q] _ (i + (showF q 1).length) _ r h3 hf (by rw [List.length_append, ← Nat.add_assoc] at hst; exact hst) (skip_skip (by omega)) hle (Nat.le_refl _)]
    rw [List.length_append, ← Nat.add_assoc]
    have hb : bareT (.mk 19 t n nm (q :: q2 :: ps)) = .mk 19 E0 0 E0 (bareT q :: bareT q2 :: bareL ps) := by
      rw [bareT, bareL, bareL, if_neg (by decide), if_neg (by decide), if_neg (by decide)]
    rw [hb, bareL]; rfl
end Go.Proofs.YtdnglicgmlldlaaDoor

namespace Go.Proofs.YtdnglicgmlldlaaDoor
open Go.RowKit

theorem mem_size : ∀ {l : List PatT} {q : PatT}, q ∈ l → sizeT q ≤ sizeL l
  | p :: r, q, h => by
    rw [sizeL]
    rcases List.mem_cons.1 h with rfl | h
    · omega
    · have := mem_size h; omega
theorem mem_depth : ∀ {l : List PatT} {q : PatT}, q ∈ l → depthT q ≤ depthL l
  | p :: r, q, h => by
    rw [depthL]
    rcases List.mem_cons.1 h with rfl | h
    · omega
    · have := mem_depth h; omega
theorem okL.mem : ∀ {l : List PatT} {q : PatT}, okL l → q ∈ l → okT q
  | p :: r, q, hk, h => by
    rcases List.mem_cons.1 h with rfl | h
    · exact hk.head
    · exact okL.mem hk.tail h
theorem show_lvl {k : Int} {t nm : ByteArray} {n : Int} {kids : List PatT} (h18 : ¬ k = 18) (h19 : ¬ k = 19) (i j : Nat) : showF (.mk k t n nm kids) i = showF (.mk k t n nm kids) j := by
  rw [showF, showF]; simp only [if_neg h18, if_neg h19]
theorem show18_0 {t nm : ByteArray} {n : Int} {kids : List PatT} : showF (.mk 18 t n nm kids) 0 = 40 :: (showF (.mk 18 t n nm kids) 2 ++ [41]) := by
  rw [showF, showF]; rfl
theorem show18_2 {t nm : ByteArray} {n : Int} {kids : List PatT} : showF (.mk 18 t n nm kids) 2 = showF (.mk 18 t n nm kids) 1 := by
  rw [showF, showF]; rfl
theorem show19_0 {t nm : ByteArray} {n : Int} {kids : List PatT} : showF (.mk 19 t n nm kids) 0 = 40 :: (showF (.mk 19 t n nm kids) 2 ++ [41]) := by
  rw [showF, showF]; rfl
theorem show19_1 {t nm : ByteArray} {n : Int} {kids : List PatT} : showF (.mk 19 t n nm kids) 1 = showF (.mk 19 t n nm kids) 0 := by
  rw [showF, showF]; rfl
theorem reads3 (s : ByteArray) : ∀ (N : Nat) (p : PatT), sizeT p ≤ N → okT p → ∀ m, depthT p ≤ m + 1 → ItemRead s (innerP s m) p ∧ CatRead s (innerP s m) p ∧ AltRead s (innerP s m) p := by
  intro N
  induction N with
  | zero => intro p h; have := sizeT_pos p; omega
  | succ N ih =>
    intro p hN hok m hd
    obtain ⟨k, t, n, nm, kids⟩ := p
    have hn := hok.self
    obtain ⟨⟨h1, h24⟩, _, _, _, hk1⟩ := node_facts hn
    have hmore := node_more hn
    rw [depthT_eq, PatT.kids_mk] at hd
    have kidI : ∀ q ∈ kids, ∀ m', depthT q ≤ m' + 1 → ItemRead s (innerP s m') q ∧ CatRead s (innerP s m') q ∧ AltRead s (innerP s m') q := fun q hq m' h =>
      ih q (by have := mem_size hq; simp only [sizeT] at hN; omega) (hok.kids.mem hq) m' h
    have kd : ∀ q ∈ kids, depthT q ≤ m ∧ 1 ≤ depthT q := fun q hq => ⟨by have := mem_depth hq; omega, depthT_pos q⟩
    have fin : ¬ k = 18 → ¬ k = 19 → ItemRead s (innerP s m) (.mk k t n nm kids) → ItemRead s (innerP s m) (.mk k t n nm kids) ∧ CatRead s (innerP s m) (.mk k t n nm kids) ∧ AltRead s (innerP s m) (.mk k t n nm kids) := fun a b h =>
      ⟨h, cat_of_item h (show_lvl a b _ _), alt_of_cat (cat_of_item h (show_lvl a b _ _)) (show_lvl a b _ _)⟩
    have hal : ∀ m' i, innerP s (m' + 1) i = altP (innerP s m') s i := fun m' i => by rw [innerP]
    by_cases c1 : k = 1
    · subst c1; exact fin (by decide) (by decide) (read_lit hn)
    by_cases c2 : isTextK k
    · unfold isTextK at c2
      obtain ⟨kk, rfl⟩ : ∃ kk : Nat, k = kk := ⟨k.toNat, by omega⟩
      exact fin (by omega) (by omega) (read_text (by omega) hn)
    by_cases c3 : isNumK k
    · unfold isNumK at c3
      obtain ⟨kk, rfl⟩ : ∃ kk : Nat, k = kk := ⟨k.toNat, by omega⟩
      exact fin (by omega) (by omega) (read_num (by omega) hn)
    unfold isTextK at c2; unfold isNumK at c3
    by_cases c4 : k = 23 ∨ k = 24
    · exact fin (by omega) (by omega) (read_name c4 hn)
    by_cases c5 : 12 ≤ k ∧ k ≤ 17
    · obtain ⟨kk, rfl⟩ : ∃ kk : Nat, k = kk := ⟨k.toNat, by omega⟩
      exact fin (by omega) (by omega) (read_word (by omega) hn)
    by_cases c6 : 20 ≤ k ∧ k ≤ 22
    · obtain ⟨q, rfl⟩ := List.length_eq_one_iff.1 (hk1 c6)
      have hkd := kd q (by simp)
      by_cases c7 : k = 20
      · subst c7
        obtain ⟨m', rfl⟩ : ∃ m', m = m' + 1 := ⟨m - 1, by omega⟩
        refine fin (by decide) (by decide) (read_arbno fun i r h hf hst => ?_)
        rw [hal]; exact (kidI q (by simp) m' (by omega)).2.2 i r h hf hst
      · exact fin (by omega) (by omega) (read_gift (by omega) hn (kidI q (by simp) m (by omega)).1)
    have h2 : k = 18 ∨ k = 19 := by omega
    have hlen : 2 ≤ kids.length := by
      have := hmore.2.2.1
      have e : leastK (PatT.mk k t n nm kids).kind = 2 := by show leastK k = 2; unfold leastK; rw [if_pos h2]
      rw [e] at this; simpa using this
    obtain ⟨q0, hq0⟩ : ∃ q, q ∈ kids := ⟨kids[0], List.getElem_mem _⟩
    obtain ⟨m', rfl⟩ : ∃ m', m = m' + 1 := ⟨m - 1, by have := kd q0 hq0; omega⟩
    rcases h2 with rfl | rfl
    · have hA : ∀ x, (∀ q ∈ kids, depthT q ≤ x + 1) → CatRead s (innerP s x) (.mk 18 t n nm kids) := fun x hx => cat18 hlen fun q hq => ⟨(kidI q hq x (hx q hq)).1, hok.kids.mem hq⟩
      have hC := hA (m' + 1) (fun q hq => by have := kd q hq; omega)
      have hC' := hA m' (fun q hq => (kd q hq).1)
      exact ⟨read_par show18_0 fun i r h hf hst => by rw [hal]; exact alt_of_cat hC' show18_2 i r h hf hst, hC, alt_of_cat hC show18_2⟩
    · have hA : ∀ x, (∀ q ∈ kids, depthT q ≤ x + 1) → AltRead s (innerP s x) (.mk 19 t n nm kids) := fun x hx => alt19 hlen fun q hq => (kidI q hq x (hx q hq)).2.1
      have hC := hA (m' + 1) (fun q hq => by have := kd q hq; omega)
      have hC' := hA m' (fun q hq => (kd q hq).1)
      have hI : ItemRead s (innerP s (m' + 1)) (.mk 19 t n nm kids) := read_par show19_0 fun i r h hf hst => by rw [hal]; exact hC' i r h hf hst
      exact ⟨hI, cat_of_item hI show19_1, hC⟩
/-- WHAT IS WRITTEN IS READ. -/
theorem read_written (p : PatT) (hok : okT p) (hf : fits p) (hl : (showF p 2).length ≤ 65536) : readP ⟨(showF p 2).toArray⟩ = .ok (bareT p) := by
  obtain ⟨s, hs⟩ : ∃ s : ByteArray, s = ⟨(showF p 2).toArray⟩ := ⟨_, rfl⟩
  have hsz : s.size = (showF p 2).length := by rw [hs]; show (showF p 2).toArray.size = _; rw [List.size_toArray]
  have hh : Has s 0 (showF p 2) [] := ⟨by rw [hs]; simp, Nat.zero_le _⟩
  have hend : skip s (0 + (showF p 2).length) = s.size := by rw [Nat.zero_add, ← hsz]; exact skip_end (Nat.le_refl _)
  have hpe : peek s s.size = -1 := by unfold peek; rw [dif_neg (by omega)]
  have hr := (reads3 s _ p (Nat.le_refl _) hok 200 (by have := hf.2; omega)).2.2 0 [] hh (fun c t e => by cases e) (.inl (by rw [hend, hpe]))
  rw [← hs]
  unfold readP
  rw [if_neg (by omega), hr, hend]
  dsimp only
  rw [skip_end (Nat.le_refl _), hpe, if_neg (by decide), if_pos (by unfold fits; rw [bare_size, bare_depth]; exact hf)]
end Go.Proofs.YtdnglicgmlldlaaDoor

namespace Go.Proofs.YtdnglicgmlldlaaDoor
open Go.RowKit

def GoodT (q : PatT) : Prop := (∀ x ∈ allT q, x.kids.length ≤ 4096 → nodeF x = 0) ∧ bareT q = q
theorem good_leaf {k n : Int} {t nm : ByteArray} (h : nodeF (.mk k t n nm []) = 0) (hb : bareT (.mk k t n nm []) = .mk k t n nm []) : GoodT (.mk k t n nm []) := by
  refine ⟨fun x hx _ => ?_, hb⟩
  rw [allT, allL, List.mem_singleton] at hx
  rw [hx]; exact h
theorem good_list : ∀ {l : List PatT}, (∀ q ∈ l, GoodT q) → (∀ x ∈ allL l, x.kids.length ≤ 4096 → nodeF x = 0) ∧ bareL l = l
  | [], _ => ⟨fun x hx => by rw [allL] at hx; simp at hx, by rw [bareL]⟩
  | p :: r, h => by
    have hp := h p (by simp)
    have hr := good_list (l := r) (fun q hq => h q (by simp [hq]))
    refine ⟨fun x hx => ?_, by rw [bareL, hp.2, hr.2]⟩
    rw [allL] at hx
    rcases List.mem_append.1 hx with hx | hx
    · exact hp.1 x hx
    · exact hr.1 x hx
theorem good_node {k : Int} {nm : ByteArray} {l : List PatT} (hn : l.length ≤ 4096 → nodeF (.mk k E0 0 nm l) = 0) (hb : (if isNameK k then nm else E0) = nm) (hl : ∀ q ∈ l, GoodT q) : GoodT (.mk k E0 0 nm l) := by
  have hg := good_list hl
  refine ⟨fun x hx h => ?_, ?_⟩
  · rw [allT] at hx
    rcases List.mem_cons.1 hx with rfl | hx
    · exact hn (by simpa using h)
    · exact hg.1 x hx h
  · rw [bareT, hg.2, hb]; simp
theorem run_isW {s : ByteArray} {j : Nat} : (s.extract j (runEnd isW s j)).data.toList = (s.data.toList.drop j).takeWhile isW := by
  have h1 : (s.extract j (runEnd isW s j)).data.toList = (s.data.toList.drop j).take (runEnd isW s j - j) := by simp
  rw [h1]
  have h2 : runEnd isW s j - j = ((s.data.toList.drop j).takeWhile isW).length := by unfold runEnd; omega
  rw [h2]
  have key : ∀ l : List UInt8, l.take (l.takeWhile isW).length = l.takeWhile isW := by
    intro l
    induction l with
    | nil => rfl
    | cons a l ih =>
      rw [List.takeWhile_cons]
      split
      · rw [List.length_cons, List.take_succ_cons, ih]
      · rfl
  exact key _
theorem mem_tw {f : UInt8 → Bool} : ∀ {l : List UInt8} {c : UInt8}, c ∈ l.takeWhile f → f c = true
  | a :: l, c, h => by
    rw [List.takeWhile_cons] at h
    split at h
    · rename_i ha
      rcases List.mem_cons.1 h with rfl | h
      · exact ha
      · exact mem_tw h
    · cases h
theorem name_named {s : ByteArray} {i k : Nat} {nm : ByteArray} (h : nameP s i = .ok (nm, k)) : namedF nm = true := by
  unfold nameP wordP at h
  split at h
  · cases h
  · rename_i w a k' hw
    split at hw
    · rename_i hp
      simp only [Except.ok.injEq, Prod.mk.injEq] at hw
      obtain ⟨⟨rfl, rfl⟩, rfl⟩ := hw
      split at h
      · cases h
      · rename_i hlen
        simp only [Except.ok.injEq, Prod.mk.injEq] at h
        obtain ⟨rfl, rfl⟩ := h
        have hlt : skip s i < s.size := peek_lt (by omega)
        have hl := run_isW (s := s) (j := skip s i)
        have hpk : peek s (skip s i) = s[skip s i].toNat := by unfold peek; rw [dif_pos hlt]
        rw [drop_cons hlt, List.takeWhile_cons] at hl
        have hu : upperN s[skip s i] = true := by unfold upperN; simp; omega
        rw [if_pos (by unfold isW; rw [hu]; rfl)] at hl
        obtain ⟨x, hx⟩ : ∃ x, x = s.extract (skip s i) (runEnd isW s (skip s i)) := ⟨_, rfl⟩
        rw [← hx] at hl hlen ⊢
        have e : x.data.toList.length = x.size := rfl
        unfold namedF
        simp only [Bool.and_eq_true, decide_eq_true_eq, List.all_eq_true, List.mem_range]
        refine ⟨⟨by rw [← e, hl]; simp, by omega⟩, fun j hj => ?_⟩
        rw [← e] at hj
        rw [List.getD_eq_getElem?_getD, List.getElem?_eq_getElem hj]
        simp only [Option.getD_some]
        have hall : ∀ c ∈ x.data.toList, isW c = true := by
          rw [hl]; intro c hc
          rcases List.mem_cons.1 hc with rfl | hc
          · unfold isW; rw [hu]; rfl
          · exact mem_tw hc
        have hw := hall _ (List.getElem_mem hj)
        unfold namedAt
        cases j with
        | zero =>
          have : x.data.toList[0] = s[skip s i] := by simp [hl]
          rw [this, hu]; rfl
        | succ j => unfold isW at hw; simpa using hw
    · cases hw
theorem kind_range (x : ByteArray) (hx : 0 < x.size) : kindOf x = -1 ∨ ∃ kk ∈ wordKinds, kindOf x = (kk : Nat) := by
  by_cases hm : x ∈ wordsL
  · simp only [wordsL, List.mem_cons, List.not_mem_nil, or_false] at hm
    rcases hm with h | h | h | h | h | h | h | h | h | h | h | h | h | h | h | h | h | h | h | h | h <;> subst h <;> first | (exfalso; exact absurd hx (by decide)) | (right; decide)
  · left
    unfold kindOf Lib.idxOfS
    refine Lib.idxFromS_miss x wordsL 0 fun j hj h => hm ?_
    rw [← h, List.getD_eq_getElem?_getD, List.getElem?_eq_getElem hj]
    exact List.getElem_mem _
def GoodF (s : ByteArray) (f : Nat → Res PatT) : Prop := ∀ i p k, i ≤ s.size → f i = .ok (p, k) → GoodT p
theorem good_name {k : Int} {nm : ByteArray} (hk : k = 23 ∨ k = 24) (h : namedF nm = true) : GoodT (.mk k E0 0 nm []) := by
  rcases hk with rfl | rfl
  · exact good_leaf (by rw [node_name (by decide), if_neg (by rw [h]; decide)]; decide) (by rw [bare_leaf]; rfl)
  · exact good_leaf (by rw [node_name (by decide), if_neg (by rw [h]; decide)]; decide) (by rw [bare_leaf]; rfl)
theorem good_gift {k : Int} {nm : ByteArray} {p : PatT} (hk : k = 21 ∨ k = 22) (h : namedF nm = true) (hp : GoodT p) : GoodT (.mk k E0 0 nm [p]) := by
  rcases hk with rfl | rfl
  · exact good_node (fun _ => by rw [node_name (by decide), if_neg (by rw [h]; decide), if_neg (by show ¬ (1 < leastK 21 ∨ mostK 21 < 1); decide)]) rfl (fun q hq => by rw [List.mem_singleton] at hq; rw [hq]; exact hp)
  · exact good_node (fun _ => by rw [node_name (by decide), if_neg (by rw [h]; decide), if_neg (by show ¬ (1 < leastK 22 ∨ mostK 22 < 1); decide)]) rfl (fun q hq => by rw [List.mem_singleton] at hq; rw [hq]; exact hp)
theorem good_text {kk : Nat} {t : ByteArray} (hk : 3 ≤ kk ∧ kk ≤ 7) (h0 : t.size ≠ 0) (h1 : t.size ≤ 65536) : GoodT (.mk kk t 0 E0 []) := by
  have a : isTextK kk := by unfold isTextK; omega
  have hm : ¬ (0 < leastK kk ∨ mostK kk < 0) := by unfold leastK; rw [if_neg (by omega), if_neg (by omega)]; omega
  exact good_leaf (by rw [node_text a, if_neg (by omega), if_neg h0]; exact if_neg hm) (by rw [bare_leaf, if_pos (.inr a), if_neg (by unfold isNumK; omega), if_neg (by unfold isNameK; omega)])
theorem good_num {kk : Nat} {n : Nat} (hk : kk = 2 ∨ (8 ≤ kk ∧ kk ≤ 11)) (h1 : n ≤ 65536) : GoodT (.mk kk E0 n E0 []) := by
  have a : isNumK kk := by unfold isNumK; omega
  have hm : ¬ (0 < leastK kk ∨ mostK kk < 0) := by unfold leastK; rw [if_neg (by omega), if_neg (by omega)]; omega
  exact good_leaf (by rw [node_num a, if_neg (by omega)]; exact if_neg hm) (by rw [bare_leaf, if_neg (by unfold isTextK; omega), if_pos a, if_neg (by unfold isNameK; omega)])
theorem good_word {kk : Nat} (hk : 12 ≤ kk ∧ kk ≤ 17) : GoodT (.mk kk E0 0 E0 []) := by
  have hm : ¬ (0 < leastK kk ∨ mostK kk < 0) := by unfold leastK; rw [if_neg (by omega), if_neg (by omega)]; omega
  exact good_leaf (by rw [node_other (by omega)]; exact if_neg hm) (by rw [bare_leaf, if_neg (by unfold isTextK; omega), if_neg (by unfold isNumK; omega), if_neg (by unfold isNameK; omega)])
theorem good_arbno {p : PatT} (hp : GoodT p) : GoodT (.mk 20 E0 0 E0 [p]) :=
  good_node (fun _ => by rw [node_other (by omega), if_neg (by show ¬ (1 < leastK 20 ∨ mostK 20 < 1); decide)]) rfl (fun q hq => by rw [List.mem_singleton] at hq; rw [hq]; exact hp)
theorem good_many {kd : Int} {l : List PatT} (hk : kd = 18 ∨ kd = 19) (h0 : 0 < l.length) (hl : ∀ q ∈ l, GoodT q) : GoodT (oneOr kd l) := by
  match l, h0 with
  | [p], _ => exact hl p (by simp)
  | p :: q :: r, _ =>
    show GoodT (.mk kd E0 0 E0 (p :: q :: r))
    refine good_node (fun hlen => ?_) (by rw [ite_self]) hl
    rw [node_other (by omega), if_neg]
    unfold leastK mostK
    rw [if_pos hk, if_pos hk]
    simp only [List.length_cons] at hlen ⊢
    omega
theorem primary_good {s : ByteArray} {inner : Nat → Res PatT} (hs : s.size ≤ 65536) (hz : GoodF s inner) : GoodF s (primaryP inner s) := by
  intro i p k hi h
  have h1 := skip_ge s i; have h2 := skip_le hi
  unfold primaryP at h
  split at h
  · unfold litP at h
    cases ht : textP s (skip s i) with
    | error e => rw [ht] at h; cases h
    | ok y =>
      obtain ⟨⟨t, a⟩, k1⟩ := y
      have h3 := text_ok ht
      rw [ht] at h; simp only [Except.ok.injEq, Prod.mk.injEq] at h; obtain ⟨rfl, rfl⟩ := h
      exact good_leaf (by rw [node_lit, if_neg (by omega)]; decide) (by rw [bare_leaf]; rfl)
  · have nm : ∀ kd, (kd = 23 ∨ kd = 24) → nmP s (skip s i + 1) kd = .ok (p, k) → GoodT p := by
      intro kd hkd h
      unfold nmP at h
      cases ht : nameP s (skip s i + 1) with
      | error e => rw [ht] at h; cases h
      | ok y =>
        obtain ⟨t, k1⟩ := y
        rw [ht] at h; simp only [Except.ok.injEq, Prod.mk.injEq] at h; obtain ⟨rfl, rfl⟩ := h
        exact good_name hkd (name_named ht)
    split at h
    · exact nm _ (.inl rfl) h
    · split at h
      · exact nm _ (.inr rfl) h
      · unfold wdP at h
        cases ht : wordP s (skip s i) with
        | error e => rw [ht] at h; cases h
        | ok y =>
          obtain ⟨⟨x, a⟩, k1⟩ := y
          rw [ht] at h; dsimp only at h
          have a1 := word_ok h2 ht
          unfold kindP at h
          split at h
          · cases h
          · rename_i hno
            rcases kind_range x a1.2.2.2.2 with hk | ⟨kk, hkk, hk⟩
            · exact absurd (.inl hk) hno
            · rw [hk] at h hno
              simp only [wordKinds, List.mem_cons, List.not_mem_nil, or_false] at hkk
              split at h
              · unfold argTextP at h
                cases hn : needP 40 s k1 with
                | error e => rw [hn] at h; cases h
                | ok k2 =>
                  rw [hn] at h; dsimp only at h
                  cases hx : textP s k2 with
                  | error e => rw [hx] at h; cases h
                  | ok y =>
                    obtain ⟨⟨t, b⟩, k3⟩ := y
                    have h3 := text_ok hx
                    rw [hx] at h; dsimp only at h
                    split at h
                    · cases h
                    · cases hm : needP 41 s k3 with
                      | error e => rw [hm] at h; cases h
                      | ok k4 =>
                        rw [hm] at h; simp only [Except.ok.injEq, Prod.mk.injEq] at h; obtain ⟨rfl, rfl⟩ := h
                        exact good_text (by omega) (by assumption) (by omega)
              · split at h
                · unfold argNumP at h
                  cases hn : needP 40 s k1 with
                  | error e => rw [hn] at h; cases h
                  | ok k2 =>
                    have a2 := need_ok hn
                    rw [hn] at h; dsimp only at h
                    cases hx : numP s k2 with
                    | error e => rw [hx] at h; cases h
                    | ok y =>
                      obtain ⟨t, k3⟩ := y
                      have h3 := num_ok a2.2.1 hx
                      rw [hx] at h; dsimp only at h
                      cases hm : needP 41 s k3 with
                      | error e => rw [hm] at h; cases h
                      | ok k4 =>
                        rw [hm] at h; simp only [Except.ok.injEq, Prod.mk.injEq] at h; obtain ⟨rfl, rfl⟩ := h
                        exact good_num (by omega) h3.2.2
                · split at h
                  · rename_i h20
                    unfold argPatP at h
                    cases hn : needP 40 s k1 with
                    | error e => rw [hn] at h; cases h
                    | ok k2 =>
                      rw [hn] at h; dsimp only at h
                      have a2 := need_ok hn
                      cases hx : inner k2 with
                      | error e => rw [hx] at h; cases h
                      | ok y =>
                        obtain ⟨t, k3⟩ := y
                        rw [hx] at h; dsimp only at h
                        cases hm : needP 41 s k3 with
                        | error e => rw [hm] at h; cases h
                        | ok k4 =>
                          rw [hm] at h; simp only [Except.ok.injEq, Prod.mk.injEq] at h; obtain ⟨rfl, rfl⟩ := h
                          rw [h20]; exact good_arbno (hz _ _ _ a2.2.1 hx)
                  · simp only [Except.ok.injEq, Prod.mk.injEq] at h; obtain ⟨rfl, rfl⟩ := h
                    exact good_word (by omega)
theorem head_good {s : ByteArray} {inner : Nat → Res PatT} (hs : s.size ≤ 65536) (hz : GoodF s inner) : GoodF s (headP inner s) := by
  intro i p k hi h
  have a0 := isP_le (c := 40) hi
  unfold headP at h
  split at h
  · cases h1 : inner (isP 40 s i).2 with
    | error e => rw [h1] at h; cases h
    | ok y =>
      obtain ⟨q, k1⟩ := y
      rw [h1] at h; dsimp only at h
      cases h3 : needP 41 s k1 with
      | error e => rw [h3] at h; cases h
      | ok k3 =>
        rw [h3] at h; simp only [Except.ok.injEq, Prod.mk.injEq] at h; obtain ⟨rfl, rfl⟩ := h
        exact hz _ _ _ a0.1 h1
  · exact primary_good hs hz _ _ _ a0.1 h
theorem gifts_good {s : ByteArray} : ∀ (f : Nat) (p : PatT) (k : Nat) {q : PatT} {k' : Nat}, GoodT p → giftsP s f p k = .ok (q, k') → GoodT q
  | 0, p, k, q, k', hp, h => by simp only [giftsP, Except.ok.injEq, Prod.mk.injEq] at h; obtain ⟨rfl, rfl⟩ := h; exact hp
  | f + 1, p, k, q, k', hp, h => by
    rw [giftsP] at h
    split at h
    · cases hn : nameP s (isP 46 s k).2 with
      | error e => rw [hn] at h; cases h
      | ok y =>
        obtain ⟨nm, k1⟩ := y
        rw [hn] at h
        exact gifts_good f _ k1 (good_gift (.inl rfl) (name_named hn) hp) h
    · split at h
      · cases hn : nameP s (isP 36 s (isP 46 s k).2).2 with
        | error e => rw [hn] at h; cases h
        | ok y =>
          obtain ⟨nm, k1⟩ := y
          rw [hn] at h
          exact gifts_good f _ k1 (good_gift (.inr rfl) (name_named hn) hp) h
      · simp only [Except.ok.injEq, Prod.mk.injEq] at h; obtain ⟨rfl, rfl⟩ := h; exact hp
theorem item_good {s : ByteArray} {inner : Nat → Res PatT} (hs : s.size ≤ 65536) (hz : GoodF s inner) : GoodF s (itemP inner s) := by
  intro i p k hi h
  unfold itemP at h
  cases hh : headP inner s i with
  | error e => rw [hh] at h; cases h
  | ok y =>
    obtain ⟨q, k1⟩ := y
    rw [hh] at h
    exact gifts_good _ _ _ (head_good hs hz _ _ _ hi hh) h
theorem add_good {l : List PatT} {p : PatT} (hl : ∀ q ∈ l, GoodT q) (hp : GoodT p) : ∀ q ∈ l ++ [p], GoodT q := by
  intro q hq
  rcases List.mem_append.1 hq with hq | hq
  · exact hl q hq
  · rw [List.mem_singleton] at hq; rw [hq]; exact hp
theorem catGo_good {s : ByteArray} {inner : Nat → Res PatT} (hs : s.size ≤ 65536) (hf : InnerFwd s inner) (hz : GoodF s inner) : ∀ (f : Nat) (l : List PatT) (k : Nat) {q : PatT} {k' : Nat}, k ≤ s.size → 0 < l.length → (∀ q ∈ l, GoodT q) → catGo inner s f l k = .ok (q, k') → GoodT q
  | 0, l, k, q, k', hk, h0, hl, h => by
    simp only [catGo, Except.ok.injEq, Prod.mk.injEq] at h; obtain ⟨rfl, rfl⟩ := h
    exact good_many (.inl rfl) h0 hl
  | f + 1, l, k, q, k', hk, h0, hl, h => by
    have h2 := skip_le hk
    rw [catGo] at h
    split at h
    · cases hn : itemP inner s (skip s k) with
      | error e => rw [hn] at h; cases h
      | ok y =>
        obtain ⟨p, k1⟩ := y
        rw [hn] at h
        exact catGo_good hs hf hz f _ k1 (item_fwd hf _ _ _ h2 hn).2 (by simp) (add_good hl (item_good hs hz _ _ _ h2 hn)) h
    · simp only [Except.ok.injEq, Prod.mk.injEq] at h; obtain ⟨rfl, rfl⟩ := h
      exact good_many (.inl rfl) h0 hl
theorem cat_good {s : ByteArray} {inner : Nat → Res PatT} (hs : s.size ≤ 65536) (hf : InnerFwd s inner) (hz : GoodF s inner) : GoodF s (catP inner s) := by
  intro i p k hi h
  unfold catP at h
  cases hh : itemP inner s i with
  | error e => rw [hh] at h; cases h
  | ok y =>
    obtain ⟨q, k1⟩ := y
    rw [hh] at h
    exact catGo_good hs hf hz _ _ _ (item_fwd hf _ _ _ hi hh).2 (by simp) (fun x hx => by rw [List.mem_singleton] at hx; rw [hx]; exact item_good hs hz _ _ _ hi hh) h
theorem altGo_good {s : ByteArray} {inner : Nat → Res PatT} (hs : s.size ≤ 65536) (hf : InnerFwd s inner) (hz : GoodF s inner) : ∀ (f : Nat) (l : List PatT) (k : Nat) {q : PatT} {k' : Nat}, k ≤ s.size → 0 < l.length → (∀ q ∈ l, GoodT q) → altGo inner s f l k = .ok (q, k') → GoodT q
  | 0, l, k, q, k', hk, h0, hl, h => by
    simp only [altGo, Except.ok.injEq, Prod.mk.injEq] at h; obtain ⟨rfl, rfl⟩ := h
    exact good_many (.inr rfl) h0 hl
  | f + 1, l, k, q, k', hk, h0, hl, h => by
    have h1 := isP_le (c := 124) hk
    rw [altGo] at h
    split at h
    · cases hn : catP inner s (isP 124 s k).2 with
      | error e => rw [hn] at h; cases h
      | ok y =>
        obtain ⟨p, k1⟩ := y
        rw [hn] at h
        exact altGo_good hs hf hz f _ k1 (cat_fwd hf _ _ _ h1.1 hn).2 (by simp) (add_good hl (cat_good hs hf hz _ _ _ h1.1 hn)) h
    · simp only [Except.ok.injEq, Prod.mk.injEq] at h; obtain ⟨rfl, rfl⟩ := h
      exact good_many (.inr rfl) h0 hl
theorem alt_good {s : ByteArray} {inner : Nat → Res PatT} (hs : s.size ≤ 65536) (hf : InnerFwd s inner) (hz : GoodF s inner) : GoodF s (altP inner s) := by
  intro i p k hi h
  unfold altP at h
  cases hh : catP inner s i with
  | error e => rw [hh] at h; cases h
  | ok y =>
    obtain ⟨q, k1⟩ := y
    rw [hh] at h
    exact altGo_good hs hf hz _ _ _ (cat_fwd hf _ _ _ hi hh).2 (by simp) (fun x hx => by rw [List.mem_singleton] at hx; rw [hx]; exact cat_good hs hf hz _ _ _ hi hh) h
theorem inner_good (s : ByteArray) (hs : s.size ≤ 65536) : ∀ m, GoodF s (innerP s m)
  | 0 => fun i p k _ h => by simp [innerP] at h
  | m + 1 => fun i p k hi h => alt_good hs (inner_fwd s m) (inner_good s hs m) i p k hi h
/-- What is read is right, and has what its kinds have alone. -/
theorem read_right {s : ByteArray} {q : PatT} (h : readP s = .ok q) : okT q ∧ fits q ∧ bareT q = q := by
  unfold readP at h
  split at h
  · cases h
  · rename_i hl
    cases ha : altP (innerP s 200) s 0 with
    | error e => rw [ha] at h; cases h
    | ok y =>
      obtain ⟨p, k⟩ := y
      rw [ha] at h; dsimp only at h
      have hg := alt_good (by omega) (inner_fwd s 200) (inner_good s (by omega) 200) 0 p k (Nat.zero_le _) ha
      split at h
      · cases h
      · split at h
        · rename_i hf
          simp only [Except.ok.injEq] at h; subst h
          exact ⟨fun x hx => hg.1 x hx (by have := kids_fit p x hx; have := hf.1; omega), hf, hg.2⟩
        · cases h
end Go.Proofs.YtdnglicgmlldlaaDoor

namespace Go.Proofs.YtdnglicgmlldlaaDoor
open Go.RowKit

def aliveT : PatT := .mk 19 E0 0 E0 [.mk 1 ⟨#[97]⟩ 0 E0 [], .mk 21 E0 0 ⟨#[88]⟩ [.mk 2 E0 2 E0 []]]
theorem alive_text : showF aliveT 2 = [39, 97, 39, 32, 124, 32, 76, 69, 78, 40, 50, 41, 32, 46, 32, 88] := by
  have e : Lib.decDigits 2 = [50] := by rw [Lib.decDigits, dif_pos (by decide)]; rfl
  simp [aliveT, showF, joinG, headF, parL, quoteL, dupQ, wordL, wordsL, strB, isTextK, isNumK, e]
theorem alive_ok : okT aliveT ∧ fits aliveT := by
  refine ⟨?_, by decide⟩
  intro x hx
  simp only [aliveT, allT, allL, List.append_nil, List.mem_cons, List.mem_append, List.not_mem_nil, or_false, false_or] at hx
  rcases hx with rfl | rfl | rfl | rfl <;> decide
theorem alive_read : readP ⟨#[39, 97, 39, 32, 124, 32, 76, 69, 78, 40, 50, 41, 32, 46, 32, 88]⟩ = .ok aliveT := by
  have h := read_written aliveT alive_ok.1 alive_ok.2 (by rw [alive_text]; decide)
  rw [alive_text] at h
  exact h
end Go.Proofs.YtdnglicgmlldlaaDoor

namespace Go.Proofs.YtdnglicgmlldlaaDoor
open Go.RowKit

def NZ {α : Type} (r : Except Er α) : Prop := ∀ er, r = .error er → er.1 ≠ 0
theorem nz_need (c : Nat) (s : ByteArray) (i : Nat) : NZ (needP c s i) := by
  intro er h; unfold needP at h; split at h <;> cases h; simp
theorem nz_word (s : ByteArray) (i : Nat) : NZ (wordP s i) := by
  intro er h; unfold wordP at h; split at h <;> cases h; simp
theorem nz_name (s : ByteArray) (i : Nat) : NZ (nameP s i) := by
  intro er h; unfold nameP at h
  repeat' split at h
  all_goals first | (cases h; done) | (cases h; first | (simp; done) | exact nz_word _ _ _ ‹_›)
theorem nz_text (s : ByteArray) (i : Nat) : NZ (textP s i) := by
  intro er h; unfold textP at h
  split at h
  · cases h; exact nz_need _ _ _ _ ‹_›
  · revert h
    generalize txtL _ = x
    cases x with
    | none => intro h; unfold textR at h; cases h; simp
    | some y => intro h; unfold textR at h; cases h
theorem nz_numGo (s : ByteArray) (j : Nat) : ∀ (f k n : Nat), NZ (numGo s j f k n)
  | 0, k, n => by intro er h; rw [numGo] at h; cases h
  | f + 1, k, n => by
    intro er h; rw [numGo] at h
    repeat' split at h
    all_goals first | (cases h; done) | (cases h; simp; done) | exact nz_numGo s j f _ _ er h
theorem nz_num (s : ByteArray) (i : Nat) : NZ (numP s i) := by
  intro er h; unfold numP at h
  split at h
  · exact nz_numGo _ _ _ _ _ _ h
  · cases h; simp
theorem nz_argText (s : ByteArray) (k : Nat) (kd : Int) : NZ (argTextP s k kd) := by
  intro er h; unfold argTextP at h
  repeat' split at h
  all_goals first | (cases h; done) | (cases h; first | (simp; done) | exact nz_need _ _ _ _ ‹_› | exact nz_text _ _ _ ‹_›)
theorem nz_argNum (s : ByteArray) (k : Nat) (kd : Int) : NZ (argNumP s k kd) := by
  intro er h; unfold argNumP at h
  repeat' split at h
  all_goals first | (cases h; done) | (cases h; first | exact nz_need _ _ _ _ ‹_› | exact nz_num _ _ _ ‹_›)
theorem nz_argPat {inner : Nat → Res PatT} (hi : ∀ i, NZ (inner i)) (s : ByteArray) (k : Nat) (kd : Int) : NZ (argPatP inner s k kd) := by
  intro er h; unfold argPatP at h
  repeat' split at h
  all_goals first | (cases h; done) | (cases h; first | exact nz_need _ _ _ _ ‹_› | exact hi _ _ ‹_›)
theorem nz_kind {inner : Nat → Res PatT} (hi : ∀ i, NZ (inner i)) (s : ByteArray) (a k : Nat) (kd : Int) : NZ (kindP inner s a k kd) := by
  intro er h; unfold kindP at h
  repeat' split at h
  · cases h; simp
  · exact nz_argText _ _ _ _ h
  · exact nz_argNum _ _ _ _ h
  · exact nz_argPat hi _ _ _ _ h
  · cases h
theorem nz_primary {inner : Nat → Res PatT} (hi : ∀ i, NZ (inner i)) (s : ByteArray) (i : Nat) : NZ (primaryP inner s i) := by
  intro er h; unfold primaryP at h
  repeat' split at h
  · unfold litP at h
    repeat' split at h
    all_goals first | (cases h; done) | (cases h; exact nz_text _ _ _ ‹_›)
  · unfold nmP at h
    repeat' split at h
    all_goals first | (cases h; done) | (cases h; exact nz_name _ _ _ ‹_›)
  · unfold nmP at h
    repeat' split at h
    all_goals first | (cases h; done) | (cases h; exact nz_name _ _ _ ‹_›)
  · unfold wdP at h
    repeat' split at h
    · cases h; exact nz_word _ _ _ ‹_›
    · exact nz_kind hi _ _ _ _ _ h
theorem nz_gifts (s : ByteArray) : ∀ (f : Nat) (p : PatT) (k : Nat), NZ (giftsP s f p k)
  | 0, p, k => by intro er h; rw [giftsP] at h; cases h
  | f + 1, p, k => by
    intro er h; rw [giftsP] at h
    repeat' split at h
    all_goals first | (cases h; done) | (cases h; exact nz_name _ _ _ ‹_›) | exact nz_gifts s f _ _ er h
theorem nz_head {inner : Nat → Res PatT} (hi : ∀ i, NZ (inner i)) (s : ByteArray) (i : Nat) : NZ (headP inner s i) := by
  intro er h; unfold headP at h
  repeat' split at h
  all_goals first | (cases h; done) | (cases h; first | exact nz_need _ _ _ _ ‹_› | exact hi _ _ ‹_›) | exact nz_primary hi _ _ _ h
theorem nz_item {inner : Nat → Res PatT} (hi : ∀ i, NZ (inner i)) (s : ByteArray) (i : Nat) : NZ (itemP inner s i) := by
  intro er h; unfold itemP at h
  split at h
  · cases h; exact nz_head hi _ _ _ ‹_›
  · exact nz_gifts _ _ _ _ _ h
theorem nz_catGo {inner : Nat → Res PatT} (hi : ∀ i, NZ (inner i)) (s : ByteArray) : ∀ (f : Nat) (l : List PatT) (k : Nat), NZ (catGo inner s f l k)
  | 0, l, k => by intro er h; rw [catGo] at h; cases h
  | f + 1, l, k => by
    intro er h; rw [catGo] at h
    repeat' split at h
    all_goals first | (cases h; done) | (cases h; exact nz_item hi _ _ _ ‹_›) | exact nz_catGo hi s f _ _ er h
theorem nz_cat {inner : Nat → Res PatT} (hi : ∀ i, NZ (inner i)) (s : ByteArray) (i : Nat) : NZ (catP inner s i) := by
  intro er h; unfold catP at h
  split at h
  · cases h; exact nz_item hi _ _ _ ‹_›
  · exact nz_catGo hi _ _ _ _ _ h
theorem nz_altGo {inner : Nat → Res PatT} (hi : ∀ i, NZ (inner i)) (s : ByteArray) : ∀ (f : Nat) (l : List PatT) (k : Nat), NZ (altGo inner s f l k)
  | 0, l, k => by intro er h; rw [altGo] at h; cases h
  | f + 1, l, k => by
    intro er h; rw [altGo] at h
    repeat' split at h
    all_goals first | (cases h; done) | (cases h; exact nz_cat hi _ _ _ ‹_›) | exact nz_altGo hi s f _ _ er h
theorem nz_alt {inner : Nat → Res PatT} (hi : ∀ i, NZ (inner i)) (s : ByteArray) (i : Nat) : NZ (altP inner s i) := by
  intro er h; unfold altP at h
  split at h
  · cases h; exact nz_cat hi _ _ _ ‹_›
  · exact nz_altGo hi _ _ _ _ _ h
theorem nz_inner (s : ByteArray) : ∀ (m i : Nat), NZ (innerP s m i)
  | 0, i => by intro er h; rw [innerP] at h; cases h; simp
  | m + 1, i => by intro er h; rw [innerP] at h; exact nz_alt (fun i => nz_inner s m i) _ _ _ h
theorem nz_read (s : ByteArray) : NZ (readP s) := by
  intro er h; unfold readP at h
  repeat' split at h
  all_goals first | (cases h; done) | (cases h; first | (simp; done) | exact nz_alt (fun i => nz_inner s 200 i) _ _ _ ‹_›)
end Go.Proofs.YtdnglicgmlldlaaDoor

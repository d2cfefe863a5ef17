/- The document's Bare. -/
import Derived.Test.YtdnglicgmlldlaaDoorTm3
import Derived.Test.YtdnglicgmlldlaaDoorRef4b
import Derived.Test.YtdnglicgmlldlaaDoorRd13
import Derived.Deep.RegionLaw
namespace Go.Proofs.YtdnglicgmlldlaaDoor
open Go.RowKit

/-- Bare's own blocks: the argument's box A, the result's R, the answer's O; what is listed so far: the kids of 'out'. -/
structure BareI (S : Nat → Prop) (p : PatT) (ka : Option Addr) (cap : Nat) (w : World) (t : ByteArray) (n : Int) (nm : ByteArray) (l : List PatT) (v : Value) (wx : World) : Prop where
  box : Five w.heap.size (.int .i64 p.kind) (.string p.text) (.int .i64 p.n) (.string p.name) (.slice ka p.kids.length cap) wx
  zero : Zero5 (w.heap.size + 1) wx
  out : Five (w.heap.size + 2) (.int .i64 p.kind) (.string t) (.int .i64 n) (.string nm) v wx
  own : ∃ (cs : List Value) (S' : Nat → Prop), Win wx (w.heap.size + 3) 24 5 v l.length cs ∧ Row5 wx S' cs l ∧ ∀ b, S' b → w.heap.size + 2 < b ∧ b < wx.heap.size ∧ v.ownBlock ≠ some b
  kids : PatsAt wx S ka p.kids
  kept : Kept Nix w wx
  safe : Safe S Nix w.heap.size
theorem BareI.next {S : Nat → Prop} {p : PatT} {ka : Option Addr} {cap : Nat} {w : World} {t : ByteArray} {n : Int} {nm : ByteArray} {l : List PatT} {v : Value} {wx w' : World} (h : BareI S p ka cap w t n nm l v wx) (k : Kept Nix wx w') : BareI S p ka cap w t n nm l v w' := by
  obtain ⟨cs, S', h1, h2, h3⟩ := h.own
  exact ⟨h.box.kept k (fun h => h), Five.kept h.zero k (fun h => h), h.out.kept k (fun h => h), ⟨cs, S', h1.kept k (fun _ _ h => h), h2.kept k (fun b hb => ⟨(h3 b hb).2.1, fun h => h⟩), fun b hb => ⟨(h3 b hb).1, Nat.lt_of_lt_of_le (h3 b hb).2.1 k.size, (h3 b hb).2.2⟩⟩, h.kids.kept k (h.safe.mono h.kept.size), h.kept.trans k, h.safe⟩
theorem BareI.start {S : Nat → Prop} {p : PatT} {ka : Option Addr} {cap : Nat} {w : World} (hk : PatsAt w S ka p.kids) (hs : Safe S Nix w.heap.size) :
    BareI S p ka cap w ⟨#[]⟩ 0 ⟨#[]⟩ [] (.slice none 0 0) (((w.alloc (.cells #[.int .i64 p.kind, .string p.text, .int .i64 p.n, .string p.name, .slice ka p.kids.length cap] 24)).alloc (.cells #[.int .i64 0, .string ⟨#[]⟩, .int .i64 0, .string ⟨#[]⟩, .slice none 0 0] 24)).alloc (.cells #[.int .i64 p.kind, .string ⟨#[]⟩, .int .i64 0, .string ⟨#[]⟩, .slice none 0 0] 24)) := by
  refine ⟨Five.kept (heap_alloc_new w _) (((Kept.refl Nix _).alloc _).alloc _) (fun h => h), Five.kept (heap_new2 (by simp)) ((Kept.refl Nix _).alloc _) (fun h => h), heap_new2 (by simp), ⟨[], Nix, Win.nil _ _ _ _, by rw [Row5], fun b hb => hb.elim⟩, hk.kept ((((Kept.refl Nix _).alloc _).alloc _).alloc _) hs, (((Kept.refl Nix _).alloc _).alloc _).alloc _, hs⟩
/-- A store into the answer. -/
theorem BareI.put {S : Nat → Prop} {p : PatT} {ka : Option Addr} {cap : Nat} {w : World} {t t' : ByteArray} {n n' : Int} {nm nm' : ByteArray} {wx w' : World} (h : BareI S p ka cap w t n nm [] (.slice none 0 0) wx) (k : Kept (· = w.heap.size + 2) wx w') (F : Five (w.heap.size + 2) (.int .i64 p.kind) (.string t') (.int .i64 n') (.string nm') (.slice none 0 0) w') :
    BareI S p ka cap w t' n' nm' [] (.slice none 0 0) w' :=
  ⟨h.box.kept k (by omega), Five.kept h.zero k (by omega), F, ⟨[], Nix, Win.nil _ _ _ _, by rw [Row5], fun b hb => hb.elim⟩, h.kids.kept k (fun b hb => ⟨Nat.lt_of_lt_of_le (h.safe b hb).1 h.kept.size, by have := (h.safe b hb).1; omega⟩), h.kept.step k (fun y hy => .inr (by omega)), h.safe⟩
theorem Five.st {M : Nat} {c0 c1 c2 c3 c4 : Value} {w : World} (h : Five M c0 c1 c2 c3 c4 w) (u : Value) :
    Five M c0 u c2 c3 c4 (w.setCell ⟨M, 1, none⟩ u) ∧ Five M c0 c1 u c3 c4 (w.setCell ⟨M, 2, none⟩ u) ∧ Five M c0 c1 c2 u c4 (w.setCell ⟨M, 3, none⟩ u) ∧ Five M c0 c1 c2 c3 u (w.setCell ⟨M, 4, none⟩ u) := by
  unfold Five at h ⊢
  refine ⟨?_, ?_, ?_, ?_⟩ <;> (rw [row_setCell h]; rfl)
theorem k1 {M o : Nat} (w : World) (u : Value) : Kept (· = M) w (w.setCell ⟨M, o, none⟩ u) := (Kept.refl (· = M) w).setCell (p := ⟨M, o, none⟩) (.inl rfl) u
def BarePost (p : PatT) (w : World) (e : Ending) (w' : World) : Prop := ∃ v, e = .returned v ∧ patVal w.heap.size (bareT p) w' v ∧ Kept Nix w w'
def BareIH (S : Nat → Prop) (kids : List PatT) : Prop := ∀ (j : Nat) (hj : j < kids.length) (v : Value) (w : World), PatV w S v kids[j] → Safe S Nix w.heap.size → Calls Tryd.prog 10 #[v] w (BarePost kids[j] w)

theorem bare_more {S : Nat → Prop} {p q : PatT} {ka : Option Addr} {cap : Nat} {w : World} {t : ByteArray} {n : Int} {nm : ByteArray} {l : List PatT} {v : Value} {w1 w3 w4 : World} {a' : Option Addr} {c' : Nat} {kc : Option Addr} {kcap : Nat} {cs : List Value} {S1 S2 : Nat → Prop}
    (I : BareI S p ka cap w t n nm l v w1) (h1 : Win w1 (w.heap.size + 3) 24 5 v l.length cs) (h2 : Row5 w1 S1 cs l) (h3 : ∀ b, S1 b → w.heap.size + 2 < b ∧ b < w1.heap.size ∧ v.ownBlock ≠ some b)
    (K3 : Kept Nix w1 w3) (hz : q.text.size < 1000000000 ∧ q.name.size < 1000000000 ∧ q.kids.length < 1000000000) (hS2 : ∀ b, S2 b → w1.heap.size ≤ b ∧ b < w3.heap.size) (hq : PatsAt w3 S2 kc q.kids)
    (hw : Win w4 (w.heap.size + 3) 24 5 (.slice a' (l.length + 1) c') (l.length + 1) (cs ++ [.int .i64 q.kind, .string q.text, .int .i64 q.n, .string q.name, .slice kc q.kids.length kcap])) (hg : (w3.alloc (.cells #[.int .i64 q.kind, .string q.text, .int .i64 q.n, .string q.name, .slice kc q.kids.length kcap] 24)).grownBy w4 v.ownBlock)
    (ho : (Value.slice a' (l.length + 1) c').ownBlock = v.ownBlock ∨ (Value.slice a' (l.length + 1) c').ownBlock = some (w3.heap.size + 1)) :
    BareI S p ka cap w t n nm (l ++ [q]) (.slice a' (l.length + 1) c') (w4.setCell ⟨w.heap.size + 2, 4, none⟩ (.slice a' (l.length + 1) c')) := by
  have kA : Kept Nix w3 (w3.alloc (.cells #[.int .i64 q.kind, .string q.text, .int .i64 q.n, .string q.name, .slice kc q.kids.length kcap] 24)) := (Kept.refl _ _).alloc _
  have hlow : ∀ b, v.ownBlock = some b → w.heap.size + 3 ≤ b ∧ b < w1.heap.size := h1.lt
  have hs3 := K3.size
  have hw1 := I.out.lt
  have K34 : Kept (fun b => v.ownBlock = some b) w3 w4 := (kA.more fun _ h => h.elim).grown hg fun b hb => .inl hb
  have K14 : Kept (fun b => v.ownBlock = some b) w1 w4 := (K3.more fun _ h => h.elim).trans K34
  have K5 : Kept (· = w.heap.size + 2) w4 (w4.setCell ⟨w.heap.size + 2, 4, none⟩ (.slice a' (l.length + 1) c')) := k1 _ _
  have hs4 := K14.size
  have hs34 := K34.size
  have hnew : ∀ g, (Value.slice a' (l.length + 1) c').ownBlock = some g → w.heap.size + 3 ≤ g := fun g hg => (hw.lt g hg).1
  refine ⟨(I.box.kept K14 (fun h => by have := hlow _ h; omega)).kept K5 (by omega), Five.kept (Five.kept I.zero K14 (fun h => by have := hlow _ h; omega)) K5 (by omega), ((I.out.kept K14 (fun h => by have := hlow _ h; omega)).st _).2.2.2, ?_, (I.kids.kept K14 (fun b hb => ⟨Nat.lt_of_lt_of_le (I.safe b hb).1 I.kept.size, fun h => by have := hlow _ h; have := (I.safe b hb).1; omega⟩)).kept K5 (fun b hb => ⟨by have := (I.safe b hb).1; omega, by have := (I.safe b hb).1; omega⟩), (I.kept.step K14 (fun y hy => .inr (by have := hlow y hy; omega))).step K5 (fun y hy => .inr (by omega)), I.safe⟩
  refine ⟨_, fun b => S1 b ∨ S2 b, by rw [List.length_append]; exact hw.kept K5 (fun g hg => by have := hnew g hg; omega), ?_, fun b hb => ?_⟩
  · refine Row5.kept (X := (· = w.heap.size + 2)) (w := w4) ?_ K5 (fun b hb => ⟨by rcases hb with hb | hb; exact Nat.lt_of_lt_of_le (h3 b hb).2.1 hs4; exact Nat.lt_of_lt_of_le (hS2 b hb).2 hs34, by rcases hb with hb | hb; have := h3 b hb; omega; have := hS2 b hb; omega⟩)
    refine Row5.append ?_ ?_
    · exact (h2.kept K14 (fun b hb => ⟨(h3 b hb).2.1, (h3 b hb).2.2⟩)).more fun b h => .inl h
    · rw [Row5]; refine ⟨_, [], (List.append_nil _).symm, ⟨kc, kcap, rfl, hz, ?_⟩, rfl⟩
      exact PatsAt.to hq K34 (fun b hb => ⟨(hS2 b hb).2, fun h => by have := hlow b h; have := (hS2 b hb).1; omega⟩) (fun b h => .inr h)
  · have hs5 := K5.size
    rcases hb with hb | hb
    · have := h3 b hb
      refine ⟨this.1, by omega, ?_⟩
      rcases ho with h | h
      · rw [h]; exact this.2.2
      · rw [h]; simp; omega
    · have := hS2 b hb
      refine ⟨by omega, by omega, ?_⟩
      rcases ho with h | h
      · rw [h]; intro h'; have := hlow b h'; omega
      · rw [h]; simp; omega
theorem BareI.pats {S : Nat → Prop} {p : PatT} {ka : Option Addr} {cap : Nat} {w : World} {t : ByteArray} {n : Int} {nm : ByteArray} {l : List PatT} {a : Option Addr} {c : Nat} {wx : World} (h : BareI S p ka cap w t n nm l (.slice a l.length c) wx) :
    ∃ S' : Nat → Prop, PatsAt wx S' a l ∧ ∀ b, S' b → w.heap.size + 2 < b ∧ b < wx.heap.size := by
  obtain ⟨cs, S', h1, h2, h3⟩ := h.own
  rcases h1.cells with ⟨hv, hn⟩ | ⟨g, o, c', hv, hg1, hg2, _, _, hc⟩
  · obtain rfl := List.length_eq_zero_iff.1 hn
    exact ⟨Nix, by unfold PatsAt; trivial, fun b hb => hb.elim⟩
  · simp only [Value.slice.injEq, true_and] at hv
    obtain ⟨rfl, rfl⟩ := hv
    refine ⟨fun b => S' b ∨ b = g, h2.pats g o (fun j u hu => (hc j u hu).1), fun b hb => ?_⟩
    rcases hb with hb | rfl
    · exact ⟨(h3 b hb).1, (h3 b hb).2.1⟩
    · omega
theorem ret_bare {f : Func} (hres : f.results = #[.cell 2 24]) {tmps : Array Value} {S : Nat → Prop} {p : PatT} {ka : Option Addr} {cap : Nat} {w wx : World} {k : Int} {t : ByteArray} {n : Int} {nm : ByteArray} {l : List PatT} {a : Option Addr} {c : Nat}
    (ht : tmps.getD 2 undef = .pointer (some ⟨w.heap.size + 1, 0, none⟩)) (I : BareI S p ka cap w t n nm l (.slice a l.length c) wx) (hb : bareT p = .mk k t n nm l) (hk : p.kind = k) (hz : t.size < 1000000000 ∧ nm.size < 1000000000 ∧ l.length < 1000000000) :
    bodyPost Tryd.prog f (BarePost p w) .ret ⟨tmps, []⟩ (set5 wx (w.heap.size + 1) (.int .i64 k) (.string t) (.int .i64 n) (.string nm) (.slice a l.length c)) := by
  obtain ⟨S', hp, hS⟩ := I.pats
  have K : Kept (· = w.heap.size + 1) wx (set5 wx (w.heap.size + 1) (.int .i64 k) (.string t) (.int .i64 n) (.string nm) (.slice a l.length c)) := (Kept.refl (· = w.heap.size + 1) wx).set5 (.inl rfl) _ _ _ _ _
  obtain ⟨h0, h1, h2, h3, h4, _⟩ := Five.cells (Five.set5 I.zero (.int .i64 k) (.string t) (.int .i64 n) (.string nm) (.slice a l.length c))
  have ht' : tmps[2]?.getD undef = .pointer (some ⟨w.heap.size + 1, 0, none⟩) := by rw [← ht, Array.getD_eq_getD_getElem?]
  refine bodyPost_ret (v := .agg #[.int .i64 k, .string t, .int .i64 n, .string nm, .slice a l.length c]) (by simp [results, hres, go_sem, ht', h0, h1, h2, h3, h4]) rfl ⟨_, rfl, ?_, I.kept.step K (fun y hy => .inr (by omega))⟩
  rw [hb]
  exact ⟨S', fun b hb => ⟨by have := hS b hb; omega, Nat.lt_of_lt_of_le (hS b hb).2 K.size⟩, a, c, rfl, hz, hp.kept K (fun b hb => ⟨(hS b hb).2, by have := hS b hb; omega⟩)⟩
theorem bareL_take (l : List PatT) (j : Nat) (hj : j < l.length) : bareL (l.take (j + 1)) = bareL (l.take j) ++ [bareT l[j]] := by
  induction l generalizing j with
  | nil => simp at hj
  | cons p ps ih =>
    cases j with
    | zero => simp [bareL]
    | succ j => simp only [List.take_succ_cons, bareL, List.cons_append, List.getElem_cons_succ]; rw [ih j (by simpa using hj)]
end Go.Proofs.YtdnglicgmlldlaaDoor

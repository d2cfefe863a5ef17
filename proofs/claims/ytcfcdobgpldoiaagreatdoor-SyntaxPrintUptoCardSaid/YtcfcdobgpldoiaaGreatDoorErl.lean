/- A list of faults: append to it. -/
import Derived.Test.YtcfcdobgpldoiaaGreatDoorSt2
import Derived.Test.YtcfcdobgpldoiaaGreatDoorOrd
import Derived.Test.YtcfcdobgpldoiaaGreatDoorWin
namespace Go.Proofs.YtcfcdobgpldoiaaGreatDoor
set_option linter.all false
open Go.RowKit

theorem PatV.keepN {w w' : World} {S : Nat → Prop} {v : Value} {p : PatT} (h : PatV w S v p) (hk : Kept Nix w w') (hS : Safe S Nix w.heap.size) : PatV w' S v p := by
  obtain ⟨a, c, e, z, k⟩ := h
  exact ⟨a, c, e, z, k.kept hk hS⟩
theorem PatV.all {w : World} {S : Nat → Prop} {v : Value} {p : PatT} (h : PatV w S v p) (hS : Safe S Nix w.heap.size) : PatV w (· < w.heap.size) v p := by
  obtain ⟨a, c, e, z, k⟩ := h
  exact ⟨a, c, e, z, PatsAt.same (fun _ _ => rfl) (fun b hb => (hS b hb).1) _ _ k⟩
theorem firstE_drop (l : List Int) (j : Nat) (h : j < l.length) : firstE (l.drop j) = if l[j] = 0 then firstE (l.drop (j + 1)) else l[j] := by
  rw [List.drop_eq_getElem_cons h, firstE]
theorem infoErr : (Tryz.prog.info? 26).map (fun i => (i.zero, i.size, i.bytes)) = some (some (.int .i64 0), 1, 8) := by kernel_rfl
theorem errs_src {w : World} {g : Nat} {es : List Int} (hg : w.heap[g]? = some (.cells (es.map (Value.int .i64)).toArray 26 (0, 0))) :
    Src Tryz.prog 1 48 (.slice (some ⟨g, 0, none⟩) es.length es.length) es.length (es.map (Value.int .i64)) w := by
  have h := World.news_of_block (fr := (0, 0)) (cs := (es.map (Value.int .i64)).toArray) hg
  simp only [List.toList_toArray, List.size_toArray, List.length_map] at h
  exact Src.ofSlice _ Tryz.underlying48 _ _ _ _ (by simp) h (by intro u hu; obtain ⟨e, _, rfl⟩ := List.mem_map.1 hu; rfl)
theorem wpList_err {ops : Array Oper} {rest : List Oper} {o : Oper} {a : Act} {Q : Exit → Act → World → Prop} {w w0 : World} (hgd : o.guard = none) (s x : Operand)
    (ho : o.op = .call { callee := .builtin .append, args := #[s, x], argTypes := #[48, 48] })
    (v : Value) (n : Nat) (xs : List Value) (hs : a.eval s = v) (B : Nat) (hown : Win w B 26 1 v n xs) (es : List Int) (g : Nat) (hx : a.eval x = .slice (some ⟨g, 0, none⟩) es.length es.length)
    (hg : w.heap[g]? = some (.cells (es.map (Value.int .i64)).toArray 26 (0, 0))) (hn : n + es.length ≤ 1000) (hB : B ≤ w.heap.size) (K0 : Kept Nix w0 w) (hB0 : w0.heap.size ≤ B)
    (h : ∀ a' c' w', Win w' B 26 1 (.slice a' (n + es.length) c') (n + es.length) (xs ++ es.map (Value.int .i64)) → Kept Nix w0 w' → w.heap.size ≤ w'.heap.size → wpList Tryz.prog ops Q rest (a.put o.dst (.slice a' (n + es.length) c')) w') :
    wpList Tryz.prog ops Q (o :: rest) a w := by
  obtain ⟨i0, hi0, hz0, hz1, hz2⟩ := info_parts infoErr
  refine wpList_append_win w hgd s x _ _ ho B 26 i0 (.int .i64 0) 1 8 Tryz.underlying48 hi0 hz0 hz1 hz2 rfl v n xs hs hown _ es.length (es.map (Value.int .i64)) hx (errs_src hg) (by unfold maxLen; omega) (by omega) hB ?_
  intro a' c' w' hW hgr _
  exact h a' c' w' hW (K0.grown hgr fun k hk => .inr (by have := (hown.lt k hk).1; omega)) hgr.size
theorem op_err {i : Nat} {o : Oper} {x : Act} {w : World} {R : Nat → Value → World → Prop} {Q : Exit → Act → World → Prop} (s y : Operand)
    (ho : o.op = .call { callee := .builtin .append, args := #[s, y], argTypes := #[48, 48] })
    (hs : x.eval s = .slice none 0 0) (es : List Int) (g : Nat) (hx : x.eval y = .slice (some ⟨g, 0, none⟩) es.length es.length)
    (hg : w.heap[g]? = some (.cells (es.map (Value.int .i64)).toArray 26 (0, 0))) (hn : es.length ≤ 1000) (B : Nat) (hB : B ≤ w.heap.size)
    (h : ∀ a' c' w', Win w' B 26 1 (.slice a' es.length c') es.length (es.map (Value.int .i64)) → R i (.slice a' es.length c') w') :
    o.wp Tryz.prog x w (fun a' w' => ∃ v, a' = x.put o.dst v ∧ (∀ d, o.dst = some d → R i v w') ∧ Kept Nix w w') Q := by
  obtain ⟨i0, hi0, hz0, hz1, hz2⟩ := info_parts infoErr
  refine wp_append_win w s y _ _ ho B 26 i0 (.int .i64 0) 1 8 Tryz.underlying48 hi0 hz0 hz1 hz2 rfl (.slice none 0 0) 0 [] hs (Win.nil ..) _ es.length (es.map (Value.int .i64)) hx (errs_src hg) (by unfold maxLen; omega) (by omega) hB ?_
  intro a' c' w' hW hgr _
  simp only [Nat.zero_add, List.nil_append] at hW ⊢
  exact ⟨_, rfl, fun _ _ => h a' c' w' hW, (Kept.refl Nix w).grown hgr fun k hk => by cases hk⟩
end Go.Proofs.YtcfcdobgpldoiaaGreatDoor

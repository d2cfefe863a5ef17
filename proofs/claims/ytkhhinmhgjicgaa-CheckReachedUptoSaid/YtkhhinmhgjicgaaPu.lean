/- (*Table).Next's inner function: one way to go on (printed by gen/pu.py). -/
import Derived.Test.YtkhhinmhgjicgaaInts
namespace Go.Proofs.Ytkhhinmhgjicgaa
set_option linter.all false
open Go.RowKit

structure NxC (N T : Nat) (al : Option Addr) (len cl j : Nat) (xs : List Int) (w : World) : Prop where
  ct : Cel w N 43 (.pointer (some ⟨T, 0, none⟩))
  cl : Cel w (N + 1) 22 (.slice al len cl)
  ci : Cel w (N + 2) 3 (.int .i64 j)
  co : ∃ v, Cel w (N + 3) 50 v ∧ OwnI w (N + 5) v xs
  cv : ∃ b, Cel w (N + 4) 4 (.bool b)
  sz : N + 5 ≤ w.heap.size
/-- Where one goes on at a name. -/
def putF (m : ByteArray → Option Int) (len j : Nat) (n : ByteArray) : Option Int :=
  if n.toList = [69, 78, 68] then some len else if keptF n = true then none else if n.size ≠ 0 then some ((m n).getD 0) else some ((j : Int) + 1)
def addK (xs : List Int) : Option Int → List Int
  | none => xs
  | some k => if xs.contains k then xs else xs ++ [k]
def PutKQ (N T : Nat) (al : Option Addr) (len cl j : Nat) (ys : List Int) (w : World) (e : Ending) (w' : World) : Prop :=
  e = .returned (.tuple #[]) ∧ NxC N T al len cl j ys w' ∧ Kept (fun b => N + 3 ≤ b) w w'
theorem NxC.kept {N T len cl j : Nat} {al : Option Addr} {xs : List Int} {w w' : World} (h : NxC N T al len cl j xs w) (hk : Kept Nix w w') : NxC N T al len cl j xs w' := by
  obtain ⟨v, h1, h2⟩ := h.co
  obtain ⟨b, h3⟩ := h.cv
  exact ⟨h.ct.kept hk (fun h => h), h.cl.kept hk (fun h => h), h.ci.kept hk (fun h => h), ⟨v, h1.kept hk (fun h => h), h2.kept hk (fun _ _ h => h)⟩, ⟨b, h3.kept hk (fun h => h)⟩, Nat.le_trans h.sz hk.size⟩
theorem NxC.leave {N T len cl j : Nat} {al : Option Addr} {xs : List Int} {w : World} (h : NxC N T al len cl j xs w) (b : Bool) : NxC N T al len cl j xs (w.setCell ⟨N + 4, 0, none⟩ (.bool b)) := by
  obtain ⟨v, h1, h2⟩ := h.co
  obtain ⟨b0, h3⟩ := h.cv
  have hk : Kept (· = N + 4) w (w.setCell ⟨N + 4, 0, none⟩ (.bool b)) := (Kept.refl (· = N + 4) w).setCell (p := ⟨N + 4, 0, none⟩) (.inl rfl) _
  exact ⟨h.ct.other (by omega) _, h.cl.other (by omega) _, h.ci.other (by omega) _, ⟨v, h1.other (by omega) _, h2.kept hk (fun k hk he => by have := (h2.lt k hk).1; omega)⟩, ⟨b, h3.set _⟩, by simp [World.setCell]; exact h.sz⟩
theorem NxC.push {N T len cl j : Nat} {al : Option Addr} {xs ys : List Int} {w w' : World} {v v' : Value} (h : NxC N T al len cl j xs w) (hv : Cel w (N + 3) 50 v) (ho : OwnI w (N + 5) v xs) (hk : Kept (fun b => N + 5 ≤ b) w w') (h' : OwnI w' (N + 5) v' ys) :
    NxC N T al len cl j ys (w'.setCell ⟨N + 3, 0, none⟩ v') ∧ Kept (fun b => N + 3 ≤ b) w (w'.setCell ⟨N + 3, 0, none⟩ v') := by
  obtain ⟨b0, h3⟩ := h.cv
  have k2 : Kept (· = N + 3) w' (w'.setCell ⟨N + 3, 0, none⟩ v') := (Kept.refl (· = N + 3) w').setCell (p := ⟨N + 3, 0, none⟩) (.inl rfl) _
  refine ⟨⟨(h.ct.kept hk (by omega)).other (by omega) _, (h.cl.kept hk (by omega)).other (by omega) _, (h.ci.kept hk (by omega)).other (by omega) _, ⟨v', (hv.kept hk (by omega)).set _, h'.kept k2 (fun k hk he => by have := (h'.lt k hk).1; omega)⟩, ⟨b0, (h3.kept hk (by omega)).other (by omega) _⟩, ?_⟩, ?_⟩
  · have := h.sz; have := hk.size; simp [World.setCell]; omega
  · exact (hk.more (fun b (hb : N + 5 ≤ b) => (show N + 3 ≤ b by omega))).trans (k2.more (fun b (hb : b = N + 3) => (show N + 3 ≤ b by omega)))
theorem intRow {w : World} {g : Nat} {k : Int} (hg : w.heap[g]? = some (.cells #[.int .i64 k] 3 (0, 0))) : ∀ (j : Nat) (u : Value), [Value.int .i64 k][j]? = some u → w.cell? ((⟨g, 0, none⟩ : Addr).add j) = some u := by
  intro j u hu
  cases j with
  | zero =>
    have e1 : (⟨g, 0, none⟩ : Addr).add 0 = ⟨g, 0, none⟩ := by unfold Addr.add; split <;> simp_all
    rw [e1, cell_of_row w g 0 _ _ _ hg]; simpa using hu
  | succ j => simp at hu

set_option maxRecDepth 100000 in
set_option maxHeartbeats 4000000 in
theorem put_any (N T B1 B2 n1 : Nat) (mF : ByteArray → Option Int) (n : ByteArray) (al : Option Addr) (len cl j : Nat) (xs : List Int) (w : World) (hC : NxC N T al len cl j xs w) (hT : TabT w T B1 B2) (hM : MapF w B1 n1 mF) (hnl : n.size ≤ maxLen) (hj : j ≤ 1048576) (hlen : len ≤ 1048576) (hxs : xs.length ≤ 1000) :
    Calls Try.prog 36 #[.string n, .pointer (some ⟨N + 2, 0, none⟩), .pointer (some ⟨N + 1, 0, none⟩), .pointer (some ⟨N + 4, 0, none⟩), .pointer (some ⟨N, 0, none⟩), .pointer (some ⟨N + 3, 0, none⟩)] w (PutKQ N T al len cl j (addK xs (putF mF len j n)) w) := by
  have HC := Lib.hid hC; have HM := Lib.hid hM
  have c0 := hC.ct.cell; have c1 := hC.cl.cell; have c2 := hC.ci.cell
  obtain ⟨v, cv, ov⟩ := hC.co
  obtain ⟨b0, cb⟩ := hC.cv
  have c3 := cv.cell; have c4 := cb.cell; have f4 := cb.free
  have CV := Lib.hid cv; have OV := Lib.hid ov
  have hsz := hC.sz
  obtain ⟨x0, x1⟩ := hT.cells
  obtain ⟨i0, hi0, hz0, hz1, hz2⟩ := info_parts infoInt
  have hvs : ∃ va vc, v = .slice va xs.length vc := by
    rcases ov.shape with ⟨rfl, rfl⟩ | ⟨g, c, rfl, _⟩
    · exact ⟨_, _, rfl⟩
    · exact ⟨_, _, rfl⟩
  obtain ⟨va, vc, rfl⟩ := hvs
  clear hC hM cv ov cb hT
  by_cases h1 : n.toList = [69, 78, 68]
  · have e1 : (n.toList == [69, 78, 68]) = true := by simpa using h1
    have HF : Hid (putF mF len j n = some (len : Int)) := if_pos h1
    clear h1
    cases hq : xs.contains ((len : Int)) with
    | true =>
      have HQ := Lib.hid hq
      have fin : Hid (addK xs (putF mF len j n) = xs) := by unfold Hid; rw [HF.out]; exact if_pos hq
      clear hq
      go_enter Try.func36, Try.ntmps36
      go_wp2_with (first | (go_at_call 37; (refine (hasI_any (N + 5) _ xs _ w OV.out (by omega)).mono ?_); rintro e w' ⟨rfl, hw_⟩; obtain rfl := hw_.symm; rw [HQ.out]))
      refine bodyPost_ret (v := .tuple #[]) (by simp [results, Try.results36, go_sem]) rfl ⟨rfl, by rw [fin.out]; exact HC.out, Kept.refl _ _⟩
    | false =>
      have HQ := Lib.hid hq
      have fin : Hid (addK xs (putF mF len j n) = xs ++ [(len : Int)]) := by unfold Hid; rw [HF.out]; exact if_neg (by rw [hq]; decide)
      clear hq
      go_enter Try.func36, Try.ntmps36
      go_wp2_with (first
        | (go_at_call 37; (refine (hasI_any (N + 5) _ xs _ w OV.out (by omega)).mono ?_); rintro e w' ⟨rfl, hw_⟩; obtain rfl := hw_.symm; rw [HQ.out])
        | (at_builtin; refine wpList_append_lies _ rfl (.tmp 31) (.tmp 33) 50 rfl (N + 5) 3 i0 (.int .i64 0) 1 8 Try.underlying50 hi0 hz0 hz1 hz2 rfl (by decide) _ xs.length (xs.map (Value.int .i64)) rfl (OV.out.kept ((Kept.refl Nix w).alloc _) (fun _ _ h => h)) ⟨w.heap.size, 0, none⟩ 1 1 [.int .i64 ((len : Int))] rfl rfl (intRow (heap_alloc_new w _)) (by intro u hu; obtain rfl := List.mem_singleton.1 hu; rfl) (by decide) (by unfold maxLen; omega) (by omega) (by simp; omega) _ rfl ?_; intro g c5 w5 hO5 hg5 _ _; have K5 := Lib.hid (((Kept.refl (fun b => N + 5 ≤ b) w).alloc (.cells #[.int .i64 ((len : Int))] 3)).grown hg5 fun k hk => .inl (OV.out.lt k hk).1); have O5 : Hid (OwnI w5 (N + 5) (.slice (some ⟨g, 0, none⟩) (xs.length + 1) c5) (xs ++ [(len : Int)])) := (by unfold Hid OwnI; simpa using hO5); clear hO5 hg5; have c35 := (CV.out.kept K5.out (by omega)).cell; have f35 := (CV.out.kept K5.out (by omega)).free))
      have fp := Lib.hid (HC.out.push CV.out OV.out K5.out O5.out)
      refine bodyPost_ret (v := .tuple #[]) (by simp [results, Try.results36, go_sem]) rfl ⟨rfl, by rw [fin.out]; exact fp.out.1, fp.out.2⟩
  have e1 : (n.toList == [69, 78, 68]) = false := by simpa using h1
  cases hk : keptF n with
  | true =>
    have HK := Lib.hid hk
    have fin : Hid (addK xs (putF mF len j n) = xs) := by unfold Hid putF; rw [if_neg h1, if_pos hk]; rfl
    clear h1 hk
    go_enter Try.func36, Try.ntmps36
    go_wp2_with (go_at_call 26; refine (kept_any n w).mono ?_; rintro e w' ⟨rfl, hw_⟩; obtain rfl := hw_.symm; rw [HK.out])
    refine bodyPost_ret (v := .tuple #[]) (by simp [results, Try.results36, go_sem]) rfl ⟨rfl, by rw [fin.out]; exact HC.out.leave true, (Kept.refl _ _).setCell (p := ⟨N + 4, 0, none⟩) (.inl (show N + 3 ≤ N + 4 by omega)) _⟩
  | false =>
    have HK := Lib.hid hk
    by_cases h0 : n.size = 0
    · have e3 : n.toList.isEmpty = true := isEmpty_size.2 h0
      have HF : Hid (putF mF len j n = some ((j : Int) + 1)) := by unfold Hid putF; rw [if_neg h1, if_neg (by rw [hk]; decide), if_neg (fun h => h h0)]
      clear h1 hk h0
      cases hq : xs.contains ((j : Int) + 1) with
      | true =>
        have HQ := Lib.hid hq
        have fin : Hid (addK xs (putF mF len j n) = xs) := by unfold Hid; rw [HF.out]; exact if_pos hq
        clear hq
        go_enter Try.func36, Try.ntmps36
        go_wp2_with (first
      | (go_at_call 26; refine (kept_any n w).mono ?_; rintro e w' ⟨rfl, hw_⟩; obtain rfl := hw_.symm; rw [HK.out]) | (go_at_call 37; (refine (hasI_any (N + 5) _ xs _ w OV.out (by omega)).mono ?_); rintro e w' ⟨rfl, hw_⟩; obtain rfl := hw_.symm; rw [HQ.out]))
        refine bodyPost_ret (v := .tuple #[]) (by simp [results, Try.results36, go_sem]) rfl ⟨rfl, by rw [fin.out]; exact HC.out, Kept.refl _ _⟩
      | false =>
        have HQ := Lib.hid hq
        have fin : Hid (addK xs (putF mF len j n) = xs ++ [(j : Int) + 1]) := by unfold Hid; rw [HF.out]; exact if_neg (by rw [hq]; decide)
        clear hq
        go_enter Try.func36, Try.ntmps36
        go_wp2_with (first
      | (go_at_call 26; refine (kept_any n w).mono ?_; rintro e w' ⟨rfl, hw_⟩; obtain rfl := hw_.symm; rw [HK.out])
          | (go_at_call 37; (refine (hasI_any (N + 5) _ xs _ w OV.out (by omega)).mono ?_); rintro e w' ⟨rfl, hw_⟩; obtain rfl := hw_.symm; rw [HQ.out])
          | (at_builtin; refine wpList_append_lies _ rfl (.tmp 31) (.tmp 33) 50 rfl (N + 5) 3 i0 (.int .i64 0) 1 8 Try.underlying50 hi0 hz0 hz1 hz2 rfl (by decide) _ xs.length (xs.map (Value.int .i64)) rfl (OV.out.kept ((Kept.refl Nix w).alloc _) (fun _ _ h => h)) ⟨w.heap.size, 0, none⟩ 1 1 [.int .i64 ((j : Int) + 1)] rfl rfl (intRow (heap_alloc_new w _)) (by intro u hu; obtain rfl := List.mem_singleton.1 hu; rfl) (by decide) (by unfold maxLen; omega) (by omega) (by simp; omega) _ rfl ?_; intro g c5 w5 hO5 hg5 _ _; have K5 := Lib.hid (((Kept.refl (fun b => N + 5 ≤ b) w).alloc (.cells #[.int .i64 ((j : Int) + 1)] 3)).grown hg5 fun k hk => .inl (OV.out.lt k hk).1); have O5 : Hid (OwnI w5 (N + 5) (.slice (some ⟨g, 0, none⟩) (xs.length + 1) c5) (xs ++ [(j : Int) + 1])) := (by unfold Hid OwnI; simpa using hO5); clear hO5 hg5; have c35 := (CV.out.kept K5.out (by omega)).cell; have f35 := (CV.out.kept K5.out (by omega)).free))
        have fp := Lib.hid (HC.out.push CV.out OV.out K5.out O5.out)
        refine bodyPost_ret (v := .tuple #[]) (by simp [results, Try.results36, go_sem]) rfl ⟨rfl, by rw [fin.out]; exact fp.out.1, fp.out.2⟩
    · have e3 : n.toList.isEmpty = false := isEmpty_size'.2 (by omega)
      have HF : Hid (putF mF len j n = some ((mF n).getD 0)) := by unfold Hid putF; rw [if_neg h1, if_neg (by rw [hk]; decide), if_pos h0]
      clear h1 hk h0
      cases hq : xs.contains ((mF n).getD 0) with
      | true =>
        have HQ := Lib.hid hq
        have fin : Hid (addK xs (putF mF len j n) = xs) := by unfold Hid; rw [HF.out]; exact if_pos hq
        clear hq
        go_enter Try.func36, Try.ntmps36
        go_wp2_with (first
      | (go_at_call 26; refine (kept_any n w).mono ?_; rintro e w' ⟨rfl, hw_⟩; obtain rfl := hw_.symm; rw [HK.out])
      | (refine wpList_look rfl _ _ rfl rfl HM.out n rfl hnl ?_) | (go_at_call 37; (refine (hasI_any (N + 5) _ xs _ w OV.out (by omega)).mono ?_); rintro e w' ⟨rfl, hw_⟩; obtain rfl := hw_.symm; rw [HQ.out]))
        refine bodyPost_ret (v := .tuple #[]) (by simp [results, Try.results36, go_sem]) rfl ⟨rfl, by rw [fin.out]; exact HC.out, Kept.refl _ _⟩
      | false =>
        have HQ := Lib.hid hq
        have fin : Hid (addK xs (putF mF len j n) = xs ++ [(mF n).getD 0]) := by unfold Hid; rw [HF.out]; exact if_neg (by rw [hq]; decide)
        clear hq
        go_enter Try.func36, Try.ntmps36
        go_wp2_with (first
      | (go_at_call 26; refine (kept_any n w).mono ?_; rintro e w' ⟨rfl, hw_⟩; obtain rfl := hw_.symm; rw [HK.out])
      | (refine wpList_look rfl _ _ rfl rfl HM.out n rfl hnl ?_)
          | (go_at_call 37; (refine (hasI_any (N + 5) _ xs _ w OV.out (by omega)).mono ?_); rintro e w' ⟨rfl, hw_⟩; obtain rfl := hw_.symm; rw [HQ.out])
          | (at_builtin; refine wpList_append_lies _ rfl (.tmp 31) (.tmp 33) 50 rfl (N + 5) 3 i0 (.int .i64 0) 1 8 Try.underlying50 hi0 hz0 hz1 hz2 rfl (by decide) _ xs.length (xs.map (Value.int .i64)) rfl (OV.out.kept ((Kept.refl Nix w).alloc _) (fun _ _ h => h)) ⟨w.heap.size, 0, none⟩ 1 1 [.int .i64 ((mF n).getD 0)] rfl rfl (intRow (heap_alloc_new w _)) (by intro u hu; obtain rfl := List.mem_singleton.1 hu; rfl) (by decide) (by unfold maxLen; omega) (by omega) (by simp; omega) _ rfl ?_; intro g c5 w5 hO5 hg5 _ _; have K5 := Lib.hid (((Kept.refl (fun b => N + 5 ≤ b) w).alloc (.cells #[.int .i64 ((mF n).getD 0)] 3)).grown hg5 fun k hk => .inl (OV.out.lt k hk).1); have O5 : Hid (OwnI w5 (N + 5) (.slice (some ⟨g, 0, none⟩) (xs.length + 1) c5) (xs ++ [(mF n).getD 0])) := (by unfold Hid OwnI; simpa using hO5); clear hO5 hg5; have c35 := (CV.out.kept K5.out (by omega)).cell; have f35 := (CV.out.kept K5.out (by omega)).free))
        have fp := Lib.hid (HC.out.push CV.out OV.out K5.out O5.out)
        refine bodyPost_ret (v := .tuple #[]) (by simp [results, Try.results36, go_sem]) rfl ⟨rfl, by rw [fin.out]; exact fp.out.1, fp.out.2⟩
end Go.Proofs.Ytkhhinmhgjicgaa

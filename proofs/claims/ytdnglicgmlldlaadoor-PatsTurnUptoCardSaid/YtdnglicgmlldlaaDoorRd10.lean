/- The reader of patterns: inner. -/
import Derived.Test.YtdnglicgmlldlaaDoorRd9
namespace Go.Proofs.YtdnglicgmlldlaaDoor
open Go.RowKit

theorem Kept.setN {N : Nat} {a w : World} (h : Kept (· = N) a w) (o : Nat) (u : Value) : Kept (· = N) a (w.setCell ⟨N, o, none⟩ u) := h.setCell (p := ⟨N, o, none⟩) (.inl rfl) u
def AltOk (N W : Nat) (s : ByteArray) (d : Nat) (alt : Nat → Res PatT) : Prop :=
  ∀ (i : Nat) (w : World), Rdr N W s i d w → i ≤ s.size → Calls Tryd.prog 19 #[.pointer (some ⟨N, 0, none⟩)] w (RPost N W s d (alt i) (patVal w.heap.size) w)

set_option maxRecDepth 100000 in
set_option maxHeartbeats 1000000 in
theorem inner_deep (N W : Nat) (s : ByteArray) : InnerOk N W s 200 (innerP s 0) := by
  intro i w hr hi
  have HR := Lib.hid hr; clear hr
  have R1 := (HR.out.kept ((Kept.refl Nix w).alloc (.cells #[.int .i64 0, .string ⟨#[]⟩, .int .i64 0, .string ⟨#[]⟩, .slice none 0 0] 24)) (fun h => h) (fun h => h))
  have q3 := R1.c3; have f3 := R1.fr 3; have q1 := R1.c1
  have K : Hid (∀ u, Kept (· = N) w ((w.alloc (.cells #[.int .i64 0, .string ⟨#[]⟩, .int .i64 0, .string ⟨#[]⟩, .slice none 0 0] 24)).setCell ⟨N, 3, none⟩ u)) := fun u => ((Kept.refl _ w).alloc _).setN 3 u
  clear R1
  go_enter Tryd.func51, Tryd.ntmps51
  go_wp2_with fail
  refine (fail_any _ 4 i _).mono ?_
  rintro e w2 ⟨rfl, rfl⟩
  go_wp2_with fail
  first | exact ret_err rfl rfl (K.out _) | trace_state

set_option maxRecDepth 100000 in
set_option maxHeartbeats 1000000 in
theorem inner_more (N W : Nat) (s : ByteArray) (d m : Nat) (hm : 200 = d + (m + 1)) (ha : AltOk N W s (d + 1) (altP (innerP s m) s)) : InnerOk N W s d (innerP s (m + 1)) := by
  intro i w hr hi
  have HR := Lib.hid hr; have HA := Lib.hid ha
  have hN := hr.lt; have hW := hr.ltW; clear hr ha
  have q3 := HR.out.c3; have f3 := HR.out.fr 3; have q1 := HR.out.c1
  have K : Hid (Kept (· = N) w ((w.setCell ⟨N, 3, none⟩ (.int .i64 ((d + 1 : Nat) : Int))).alloc (.cells #[.int .i64 0, .string ⟨#[]⟩, .int .i64 0, .string ⟨#[]⟩, .slice none 0 0] 24))) := ((Kept.refl _ w).setN 3 _).alloc _
  have R2 := Lib.hid ((HR.out.setDepth (d + 1)).kept ((Kept.refl Nix _).alloc (.cells #[.int .i64 0, .string ⟨#[]⟩, .int .i64 0, .string ⟨#[]⟩, .slice none 0 0] 24)) (fun h => h) (fun h => h))
  have F0 : Hid (Five w.heap.size (.int .i64 0) (.string ⟨#[]⟩) (.int .i64 0) (.string ⟨#[]⟩) (.slice none 0 0) ((w.setCell ⟨N, 3, none⟩ (.int .i64 ((d + 1 : Nat) : Int))).alloc (.cells #[.int .i64 0, .string ⟨#[]⟩, .int .i64 0, .string ⟨#[]⟩, .slice none 0 0] 24))) :=
    heap_new2 (by simp [World.setCell])
  have hd1 : d ≤ 199 := by omega
  have e0 : Hid (innerP s (m + 1) i = altP (innerP s m) s i) := rfl
  clear hm
  go_enter Tryd.func51, Tryd.ntmps51
  go_wp2_with fail
  refine (HA.out i _ R2.out hi).mono ?_
  rintro e w2 ⟨k_, h⟩
  have F2 := Lib.hid (F0.out.kept k_ (by omega))
  have K2 := Lib.hid (K.out.trans k_)
  have hsz := k_.size
  simp at hsz
  clear k_
  cases ht : altP (innerP s m) s i with
  | error er =>
    rw [ht] at h
    obtain rfl := h
    have hr : Hid (innerP s (m + 1) i = .error er) := by unfold Hid; rw [e0.out, ht]
    clear ht q3 f3 q1
    go_wp2_with fail
    exact ret_err rfl hr.out K2.out
  | ok y =>
    obtain ⟨p, k⟩ := y
    rw [ht] at h
    obtain ⟨_, rfl, ⟨S, hS, ⟨ka, cap, rfl, hz, hk⟩⟩, R3⟩ := h
    have hr : Hid (innerP s (m + 1) i = .ok (p, k)) := by unfold Hid; rw [e0.out, ht]
    have hlt3 := R3.lt
    have g3 := R3.c3; have gf := R3.fr 3
    obtain ⟨W2, hW2⟩ : ∃ W2 : World, W2 = (w2.setCell ⟨N, 3, none⟩ (.int .i64 (d : Int))).alloc (.cells #[.int .i64 p.kind, .string p.text, .int .i64 p.n, .string p.name, .slice ka p.kids.length cap] 24) := ⟨_, rfl⟩
    have kw : Kept (· = N) w2 W2 := by rw [hW2]; exact ((Kept.refl _ w2).setN 3 _).alloc _
    have RW := (R3.setDepth d).kept ((Kept.refl Nix _).alloc (.cells #[.int .i64 p.kind, .string p.text, .int .i64 p.n, .string p.name, .slice ka p.kids.length cap] 24)) (fun h => h) (fun h => h)
    rw [← hW2] at RW
    have FW := Lib.hid (F2.out.kept kw (by omega))
    have PW : Five w2.heap.size (.int .i64 p.kind) (.string p.text) (.int .i64 p.n) (.string p.name) (.slice ka p.kids.length cap) W2 := by
      rw [hW2]; exact heap_new2 (by simp [World.setCell])
    have KW := Lib.hid (K2.out.trans kw)
    have HKK := Lib.hid (hk.kept kw (fun b hb => ⟨(hS b hb).2, by have := (hS b hb).1; simp at this; omega⟩))
    have HS := Lib.hid hS; have HZ := Lib.hid hz
    have hsW : Hid (w2.heap.size < W2.heap.size) := PW.lt
    obtain ⟨c0, c1, c2, c3, c4, cf⟩ := FW.out.cells
    have f0 := cf 0; have f1 := cf 1; have f2 := cf 2; have f3' := cf 3; have f4 := cf 4; clear cf
    obtain ⟨p0, p1, p2, p3, p4, _⟩ := PW.cells
    have RWW := Lib.hid RW
    clear ht q3 f3 q1 R3 hk hz hS RW PW kw
    have ed : ((d + 1 : Nat) : Int) - 1 = d := by omega
    have ed2 : (d : Int) + 1 - 1 = d := by omega
    go_upto_region 6 with fail
    rw [← hW2]
    clear hW2 g3 gf
    go_wp2_with fail
    refine ret_pat (p := p) (S := S) rfl rfl FW.out RWW.out KW.out (Nat.le_refl _) hN hW hr.out HZ.out (fun b hb => ?_) HKK.out
    have h1 := HS.out b hb; have h2 := hsW.out; simp at h1; omega
end Go.Proofs.YtdnglicgmlldlaaDoor

/- Plain laws on patterns as trees: what a walk through a pattern finds. -/
import Derived.Test.YtdnglicgmlldlaaDoorTm1
namespace Go.Proofs.YtdnglicgmlldlaaDoor
open Go.RowKit

def isTextK (k : Int) : Prop := 3 ≤ k ∧ k ≤ 7
def isNumK (k : Int) : Prop := k = 2 ∨ (8 ≤ k ∧ k ≤ 11)
def isNameK (k : Int) : Prop := 21 ≤ k ∧ k ≤ 24
instance (k : Int) : Decidable (isTextK k) := by unfold isTextK; exact inferInstance
instance (k : Int) : Decidable (isNumK k) := by unfold isNumK; exact inferInstance
instance (k : Int) : Decidable (isNameK k) := by unfold isNameK; exact inferInstance
def leastK (k : Int) : Nat := if k = 18 ∨ k = 19 then 2 else if 20 ≤ k ∧ k ≤ 22 then 1 else 0
def mostK (k : Int) : Nat := if k = 18 ∨ k = 19 then 4096 else if 20 ≤ k ∧ k ≤ 22 then 1 else 0
def nodeF (p : PatT) : Int :=
  if p.kind < 1 ∨ 24 < p.kind then 1
  else if (p.kind = 1 ∨ isTextK p.kind) ∧ 65536 < p.text.size then 4
  else if isTextK p.kind ∧ p.text.size = 0 then 8
  else if isNumK p.kind ∧ (p.n < 0 ∨ 65536 < p.n) then 3
  else if isNameK p.kind ∧ namedF p.name = false then 7
  else if p.kids.length < leastK p.kind ∨ mostK p.kind < p.kids.length then 5 else 0

section
variable {k n : Int} {t nm : ByteArray} {kids : List PatT}
theorem node_lit : nodeF (.mk 1 t n nm kids) = if 65536 < t.size then 4 else if kids.length < leastK 1 ∨ mostK 1 < kids.length then 5 else 0 := by
  have b : ¬ isTextK 1 := by decide
  have c : ¬ isNameK 1 := by decide
  have d : ¬ isNumK 1 := by decide
  have a : ¬ ((1:Int) < 1 ∨ 24 < (1:Int)) := by omega
  simp only [nodeF, PatT.kind_mk, PatT.text_mk, PatT.n_mk, PatT.name_mk, PatT.kids_mk, a, b, c, d, if_false, true_and, true_or, false_and]
  rfl
theorem node_text (h : isTextK k) : nodeF (.mk k t n nm kids) = if 65536 < t.size then 4 else if t.size = 0 then 8 else if kids.length < leastK k ∨ mostK k < kids.length then 5 else 0 := by
  have h' := h; unfold isTextK at h'
  have a : ¬ (k < 1 ∨ 24 < k) := by omega
  have b : ¬ isNumK k := by unfold isNumK; omega
  have c : ¬ isNameK k := by unfold isNameK; omega
  simp only [nodeF, PatT.kind_mk, PatT.text_mk, PatT.n_mk, PatT.name_mk, PatT.kids_mk, a, b, c, h, if_false, true_and, or_true, false_and]
  rfl
theorem node_num (h : isNumK k) : nodeF (.mk k t n nm kids) = if n < 0 ∨ 65536 < n then 3 else if kids.length < leastK k ∨ mostK k < kids.length then 5 else 0 := by
  have h' := h; unfold isNumK at h'
  have a : ¬ (k < 1 ∨ 24 < k) := by omega
  have b : ¬ isTextK k := by unfold isTextK; omega
  have c : ¬ isNameK k := by unfold isNameK; omega
  have d : ¬ k = 1 := by omega
  simp only [nodeF, PatT.kind_mk, PatT.text_mk, PatT.n_mk, PatT.name_mk, PatT.kids_mk, a, b, c, d, h, if_false, true_and, or_false, false_and]
  rfl
theorem node_name (h : isNameK k) : nodeF (.mk k t n nm kids) = if namedF nm = false then 7 else if kids.length < leastK k ∨ mostK k < kids.length then 5 else 0 := by
  have h' := h; unfold isNameK at h'
  have a : ¬ (k < 1 ∨ 24 < k) := by omega
  have b : ¬ isTextK k := by unfold isTextK; omega
  have c : ¬ isNumK k := by unfold isNumK; omega
  have d : ¬ k = 1 := by omega
  simp only [nodeF, PatT.kind_mk, PatT.text_mk, PatT.n_mk, PatT.name_mk, PatT.kids_mk, a, b, c, d, h, if_false, true_and, or_false, false_and]
  rfl
theorem node_other (h : 12 ≤ k ∧ k ≤ 20) : nodeF (.mk k t n nm kids) = if kids.length < leastK k ∨ mostK k < kids.length then 5 else 0 := by
  have a : ¬ (k < 1 ∨ 24 < k) := by omega
  have b : ¬ isTextK k := by unfold isTextK; omega
  have c : ¬ isNumK k := by unfold isNumK; omega
  have c' : ¬ isNameK k := by unfold isNameK; omega
  have d : ¬ k = 1 := by omega
  simp only [nodeF, PatT.kind_mk, PatT.text_mk, PatT.n_mk, PatT.name_mk, PatT.kids_mk, a, b, c, c', d, if_false, or_false, false_and]
  rfl
/-- What the switch lets by. -/
def Tail (k : Int) (kids : List PatT) (r : Int) : Prop := r = if kids.length < leastK k ∨ mostK k < kids.length then 5 else 0
def CutR (k : Int) (t : ByteArray) (n : Int) (nm : ByteArray) (kids : List PatT) (l m : Value) : Prop :=
  l = .int .i64 (leastK k) ∧ m = .int .i64 (mostK k) ∧ Tail k kids (nodeF (.mk k t n nm kids))
theorem bnot_t {b : Bool} (h : (!b) = true) : b = false := by simpa using h
theorem bnot_f {b : Bool} (h : (!b) = false) : b = true := by simpa using h
theorem text_of {k : Int} (h : (k == 3) = true ∨ (k == 4) = true ∨ (k == 5) = true ∨ (k == 6) = true ∨ (k == 7) = true) : isTextK k := by
  simp only [beq_iff_eq] at h; unfold isTextK; omega
theorem num_of {k : Int} (h : (k == 2) = true ∨ (k == 8) = true ∨ (k == 9) = true ∨ (k == 10) = true ∨ (k == 11) = true) : isNumK k := by
  simp only [beq_iff_eq] at h; unfold isNumK; omega
theorem name_of {k : Int} (h : (k == 21) = true ∨ (k == 22) = true ∨ (k == 23) = true ∨ (k == 24) = true) : isNameK k := by
  simp only [beq_iff_eq] at h; unfold isNameK; omega
variable {k n : Int} {t nm : ByteArray} {kids : List PatT}
theorem r_lit (h : (k == 1) = true) (h1 : 65536 < (t.size : Int)) : nodeF (.mk k t n nm kids) = 4 := by
  obtain rfl : k = 1 := by simpa using h
  rw [node_lit, if_pos (by omega)]
theorem c_lit (h : (k == 1) = true) (h1 : (t.size : Int) ≤ 65536) : CutR k t n nm kids (.int .i64 0) (.int .i64 0) := by
  obtain rfl : k = 1 := by simpa using h
  refine ⟨rfl, rfl, ?_⟩; unfold Tail; rw [node_lit, if_neg (by omega)]
theorem r_text4 (h : isTextK k) (h1 : 65536 < (t.size : Int)) : nodeF (.mk k t n nm kids) = 4 := by rw [node_text h, if_pos (by omega)]
theorem r_text8 (h : isTextK k) (h1 : (t.size : Int) ≤ 65536) (h2 : t.toList.isEmpty = true) : nodeF (.mk k t n nm kids) = 8 := by rw [node_text h, if_neg (by omega), if_pos (isEmpty_size.1 h2)]
theorem plain_zero (h : k < 18 ∨ 22 < k) : leastK k = 0 ∧ mostK k = 0 := by
  have a : ¬ (k = 18 ∨ k = 19) := by omega
  have b : ¬ (20 ≤ k ∧ k ≤ 22) := by omega
  simp [leastK, mostK, a, b]
theorem c_of (h : k < 18 ∨ 22 < k) (h1 : Tail k kids (nodeF (.mk k t n nm kids))) : CutR k t n nm kids (.int .i64 0) (.int .i64 0) := by
  obtain ⟨a, b⟩ := plain_zero h; unfold CutR; rw [a, b]; exact ⟨rfl, rfl, h1⟩
theorem c_text (h : isTextK k) (h1 : (t.size : Int) ≤ 65536) (h2 : t.toList.isEmpty = false) : CutR k t n nm kids (.int .i64 0) (.int .i64 0) := by
  refine c_of (by unfold isTextK at h; omega) ?_; unfold Tail; rw [node_text h, if_neg (by omega), if_neg (by have := isEmpty_size'.1 h2; omega)]
theorem r_num (h : isNumK k) (h1 : n < 0 ∨ 65536 < n) : nodeF (.mk k t n nm kids) = 3 := by rw [node_num h, if_pos h1]
theorem c_num (h : isNumK k) (h1 : 0 ≤ n ∧ n ≤ 65536) : CutR k t n nm kids (.int .i64 0) (.int .i64 0) := by
  refine c_of (by unfold isNumK at h; omega) ?_; unfold Tail; rw [node_num h, if_neg (by omega)]
theorem r_name (h : isNameK k) (h1 : namedF nm = false) : nodeF (.mk k t n nm kids) = 7 := by rw [node_name h, if_pos h1]
theorem c_name2 (h : (k == 23) = true ∨ (k == 24) = true) (h1 : namedF nm = true) : CutR k t n nm kids (.int .i64 0) (.int .i64 0) := by
  simp only [beq_iff_eq] at h
  refine c_of (by omega) ?_; unfold Tail; rw [node_name (by unfold isNameK; omega), if_neg (by simp [h1])]
theorem c_name1 (h : (k == 21) = true ∨ (k == 22) = true) (h1 : namedF nm = true) : CutR k t n nm kids (.int .i64 1) (.int .i64 1) := by
  simp only [beq_iff_eq] at h
  have a : leastK k = 1 := by unfold leastK; rw [if_neg (by omega), if_pos (by omega)]
  have b : mostK k = 1 := by unfold mostK; rw [if_neg (by omega), if_pos (by omega)]
  unfold CutR; rw [a, b]; refine ⟨rfl, rfl, ?_⟩; unfold Tail; rw [node_name (by unfold isNameK; omega), if_neg (by simp [h1])]
theorem c_cat (h : (k == 18) = true ∨ (k == 19) = true) : CutR k t n nm kids (.int .i64 2) (.int .i64 4096) := by
  simp only [beq_iff_eq] at h
  have a : leastK k = 2 := by unfold leastK; rw [if_pos (by omega)]
  have b : mostK k = 4096 := by unfold mostK; rw [if_pos (by omega)]
  unfold CutR; rw [a, b]; exact ⟨rfl, rfl, node_other (by omega)⟩
theorem c_arbno (h : (k == 20) = true) : CutR k t n nm kids (.int .i64 1) (.int .i64 1) := by
  simp only [beq_iff_eq] at h; subst h; exact ⟨rfl, rfl, node_other (by omega)⟩
theorem c_other (h : 12 ≤ k ∧ k ≤ 17) : CutR k t n nm kids (.int .i64 0) (.int .i64 0) := c_of (by omega) (node_other (by omega))
theorem fin5 {l m : Value} (h : CutR k t n nm kids l m) : ∃ a b : Nat, l = .int .i64 a ∧ m = .int .i64 b ∧ nodeF (.mk k t n nm kids) = if (kids.length : Int) < a ∨ (b : Int) < kids.length then 5 else 0 := by
  obtain ⟨rfl, rfl, h⟩ := h
  refine ⟨_, _, rfl, rfl, ?_⟩
  unfold Tail at h; rw [h]
  by_cases hc : kids.length < leastK k ∨ mostK k < kids.length
  · rw [if_pos hc, if_pos (by omega)]
  · rw [if_neg hc, if_neg (by omega)]
end

set_option maxRecDepth 100000 in
set_option maxHeartbeats 4000000 in
theorem wrong_any (p : PatT) (b o : Nat) (S : Nat → Prop) (w : World) (hp : PatAt w S b o p) :
    Calls Tryd.prog 28 #[.pointer (some ⟨b, o, none⟩)] w fun e w' => e = .returned (.int .i64 (nodeF p)) ∧ w = w' := by
  obtain ⟨k, t, n, nm, kids⟩ := p
  unfold PatAt at hp
  obtain ⟨_, ⟨ht, hn0, hk⟩, h0, h1, h2, h3, ka, cap, h4, hks⟩ := hp
  clear hks
  have hn : nm.size ≤ maxLen := by unfold maxLen; omega
  by_cases hk0 : k < 1
  · go_enter Tryd.func28, Tryd.ntmps28
    go_wp2_with fail
    go_ret
    exact ⟨by simp [nodeF, hk0], rfl⟩
  by_cases hk1 : 24 < k
  · go_enter Tryd.func28, Tryd.ntmps28
    go_wp2_with fail
    go_ret
    exact ⟨by simp [nodeF, hk1], rfl⟩
  go_enter Tryd.func28, Tryd.ntmps28
  go_upto_block 0 with fail
  go_cut [3, 4] (fun l m w' => w = w' ∧ CutR k t n nm kids l m)
  case first =>
    go_wp2_with (go_at_call 42; refine (named_any _ _ hn).mono ?_; rintro e w' ⟨rfl, rfl⟩)
    all_goals
      first
        | (go_meet; go_light; refine ⟨rfl, ?_⟩; first
            | exact c_lit ‹_› ‹_›
            | exact c_text (text_of (by first | exact .inl ‹_› | exact .inr (.inl ‹_›) | exact .inr (.inr (.inl ‹_›)) | exact .inr (.inr (.inr (.inl ‹_›))) | exact .inr (.inr (.inr (.inr ‹_›))))) ‹_› ‹_›
            | exact c_num (num_of (by first | exact .inl ‹_› | exact .inr (.inl ‹_›) | exact .inr (.inr (.inl ‹_›)) | exact .inr (.inr (.inr (.inl ‹_›))) | exact .inr (.inr (.inr (.inr ‹_›))))) (by omega)
            | exact c_name1 (by first | exact .inl ‹_› | exact .inr ‹_›) (by first | assumption | exact bnot_f ‹_›)
            | exact c_name2 (by first | exact .inl ‹_› | exact .inr ‹_›) (by first | assumption | exact bnot_f ‹_›)
            | exact c_cat (by first | exact .inl ‹_› | exact .inr ‹_›)
            | exact c_arbno ‹_›
            | exact c_other (by simp only [beq_eq_false_iff_ne] at *; omega))
        | (go_ret; go_light; refine ⟨ret_int (Eq.symm ?_), rfl⟩; first
            | exact r_lit ‹_› ‹_›
            | exact r_text4 (text_of (by first | exact .inl ‹_› | exact .inr (.inl ‹_›) | exact .inr (.inr (.inl ‹_›)) | exact .inr (.inr (.inr (.inl ‹_›))) | exact .inr (.inr (.inr (.inr ‹_›))))) ‹_›
            | exact r_text8 (text_of (by first | exact .inl ‹_› | exact .inr (.inl ‹_›) | exact .inr (.inr (.inl ‹_›)) | exact .inr (.inr (.inr (.inl ‹_›))) | exact .inr (.inr (.inr (.inr ‹_›))))) ‹_› ‹_›
            | exact r_num (num_of (by first | exact .inl ‹_› | exact .inr (.inl ‹_›) | exact .inr (.inr (.inl ‹_›)) | exact .inr (.inr (.inr (.inl ‹_›))) | exact .inr (.inr (.inr (.inr ‹_›))))) (by omega)
            | exact r_name (name_of (by first | exact .inl ‹_› | exact .inr (.inl ‹_›) | exact .inr (.inr (.inl ‹_›)) | exact .inr (.inr (.inr ‹_›)))) (by first | assumption | exact bnot_t ‹_›))
  case rest =>
    obtain ⟨rfl, hc⟩ := hcut
    obtain ⟨a, b, rfl, rfl, he⟩ := fin5 hc
    have He := Lib.hid he; clear he hc
    go_wp2_with fail
    all_goals
      go_ret
      refine ⟨ret_int (Eq.symm ?_), rfl⟩
      rw [He.out]
      first | rw [if_pos (by omega)] | rw [if_neg (by omega)]
end Go.Proofs.YtdnglicgmlldlaaDoor

namespace Go.Proofs.YtdnglicgmlldlaaDoor
open Go.RowKit

def wrongStep (_ : Int) (p : PatT) (_ : Nat) : Int × Bool := (nodeF p, nodeF p == 0)
def WrongI (c : Nat) (e : Int) (w : World) : Prop := Cel w c 25 (.int .i64 e)

set_option maxRecDepth 100000 in
set_option maxHeartbeats 400000 in
theorem wrong1_any (c : Nat) (st : Int) (p : PatT) (b o d : Nat) (S : Nat → Prop) (w : World) (hI : WrongI c st w) (hp : PatAt w S b o p) :
    Calls Tryd.prog 27 #[.pointer (some ⟨b, o, none⟩), .int .i64 (d : Nat), .pointer (some ⟨c, 0, none⟩)] w
      (WalkPost (WrongI c) (· = c) (wrongStep st p d) w) := by
  have q1 := hI.cell; have f1 := hI.free
  have K : ∀ u, u = nodeF p → WalkPost (WrongI c) (· = c) (wrongStep st p d) w (.returned (.bool (u == 0))) (w.setCell ⟨c, 0, none⟩ (.int .i64 u)) := by
    rintro u rfl; exact ⟨rfl, hI.set _, (Kept.refl _ w).setCell (.inl (by simp)) _⟩
  have HK := Lib.hid K; clear K
  clear hI
  go_enter Tryd.func27, Tryd.ntmps27
  go_wp2_with fail
  refine (wrong_any p b o S _ hp).mono ?_
  rintro e w1 ⟨rfl, rfl⟩
  go_wp2_with fail
  go_ret
  exact HK.out _ rfl

/-- What is wrong with a pattern, as the program finds it. -/
def wrongF (p : PatT) : Int := if (walkF sizeStep (0, 0) p 1).2 then (walkF wrongStep 0 p 1).1 else 4

set_option maxRecDepth 100000 in
set_option maxHeartbeats 400000 in
theorem Wrong_any (p : PatT) (v : Value) (w : World) (hp : PatV w (· < w.heap.size) v p) (hsz : sizeT p ≤ 100000000) :
    Calls Tryd.prog 11 #[v] w (fun e w' => e = .returned (.int .i64 (wrongF p)) ∧ Kept Nix w w') := by
  obtain ⟨c, hv, hb⟩ := hp.box 24 (fun b hb => hb)
  have hp0 := hp
  obtain ⟨ka, cap, rfl, hz, hk⟩ := hp
  simp only [Value.agg.injEq] at hv; subst hv
  have hmf : ∀ (fn : Fn) (first cap : Array Value) (w : World), (Instr.makeFunc fn first cap).run Tryd.prog w = .ok (.func fn first cap) w := fun _ _ _ _ => rfl
  go_enter Tryd.func11, Tryd.ntmps11
  go_wp2_with fail
  refine (size_any p _ _ ⟨ka, cap, rfl, hz, PatsAt.same (fun b hb => Below.heap_alloc _ _ _ hb) (fun b hb => by simp; omega) _ _ hk⟩ hsz).mono ?_
  rintro e w1 ⟨rfl, hk1⟩
  have HK1 : Hid (Kept Nix w w1) := ((Kept.refl Nix w).alloc _).quiet hk1
  have hb1 := hb.kept hk1 (fun b hb => ⟨by simp; omega, fun h => h⟩)
  have hsz1 : w.heap.size + 1 ≤ w1.heap.size := by have := hk1.size; simpa using this
  clear hk hp0 hb hk1
  cases hr : walkF sizeStep (0, 0) p 1 with
  | mk st ok =>
  obtain ⟨n, d⟩ := st
  have e1 : sizeF p = sizeR ((n, d), ok) := by simp [sizeF, hr]
  cases ok with
  | false =>
    have Hf : Hid (wrongF p = 4) := by simp [wrongF, hr, Hid]
    rw [e1]; clear hr e1
    dsimp only [sizeR]
    go_wp2_with fail
    go_ret
    exact ⟨ret_int Hf.out.symm, HK1.out⟩
  | true =>
    have Hf : Hid (wrongF p = (walkF wrongStep 0 p 1).1) := by simp [wrongF, hr, Hid]
    rw [e1]; clear hr e1
    dsimp only [sizeR]
    go_wp2_with fail
    refine (walk_any 27 #[.pointer (some ⟨w1.heap.size, 0, none⟩)] (fun _ _ => by kernel_rfl) (WrongI w1.heap.size) (fun _ _ => True) wrongStep
      (fun _ _ _ _ _ _ => trivial) (· = w1.heap.size) (fun b => b < w.heap.size ∨ b = w.heap.size) 500000000 (by omega) ?cl 100000000 p 0 0 w.heap.size 0 1 _ hsz (by omega) ?i trivial ?pt ?sf).mono ?_
    case cl =>
      intro _ st p b o d w' hi _ hp' _ hd
      exact wrong1_any _ st p b o d _ w' hi hp'
    case i => exact Cel.new' rfl
    case pt => exact PatAt.same (fun b hb => by rw [Below.heap_alloc]; omega) (fun _ h => h) _ _ _ hb1
    case sf => intro b hb; simp; omega
    rintro e w2 ⟨rfl, hI2, hk2⟩
    have HK2 : Hid (Kept Nix w w2) := (HK1.out.alloc _).step hk2 (by simp; omega)
    have q1 := hI2.cell; have f1 := hI2.free
    clear hb1 hk2 hI2
    go_wp2_with fail
    go_ret
    exact ⟨ret_int Hf.out.symm, HK2.out⟩
end Go.Proofs.YtdnglicgmlldlaaDoor

namespace Go.Proofs.YtdnglicgmlldlaaDoor
open Go.RowKit

mutual
def allT : PatT → List PatT
  | .mk k t n nm kids => .mk k t n nm kids :: allL kids
def allL : List PatT → List PatT
  | [] => []
  | p :: ps => allT p ++ allL ps
end
mutual
def depthT : PatT → Nat
  | .mk _ _ _ _ kids => 1 + depthL kids
def depthL : List PatT → Nat
  | [] => 0
  | p :: ps => max (depthT p) (depthL ps)
end
theorem sizeT_pos (p : PatT) : 1 ≤ sizeT p := by cases p; simp only [sizeT]; omega
theorem depthT_pos (p : PatT) : 1 ≤ depthT p := by cases p; simp only [depthT]; omega

mutual
theorem walk_size : ∀ (p : PatT) (n m d : Nat), n ≤ 4096 →
    (n + sizeT p ≤ 4096 ∧ d + depthT p ≤ 201 → walkF sizeStep (n, m) p d = ((n + sizeT p, max m (d + depthT p - 1)), true)) ∧
    (¬ (n + sizeT p ≤ 4096 ∧ d + depthT p ≤ 201) → (walkF sizeStep (n, m) p d).2 = false)
  | .mk k t n' nm kids, n, m, d, hn => by
    have ih := walkL_size kids (n + 1) (max m d) (d + 1)
    rw [sizeT, depthT, walkF]
    have e : sizeStep (n, m) (.mk k t n' nm kids) d = ((n + 1, max m d), decide (n + 1 ≤ 4096) && decide (d ≤ 200)) := rfl
    rw [e]
    by_cases h1 : n + 1 ≤ 4096 ∧ d ≤ 200
    · rw [decide_eq_true h1.1, decide_eq_true h1.2, Bool.and_true]
      obtain ⟨a, b⟩ := ih h1.1 (by omega)
      refine ⟨fun h => ?_, fun h => b (by omega)⟩
      show walkKids sizeStep (n + 1, max m d) kids (d + 1) = _
      rw [a (by omega)]
      refine Prod.ext (Prod.ext (by dsimp only; omega) ?_) rfl
      dsimp only
      cases kids with
      | nil => rw [if_pos rfl, depthL]; omega
      | cons q qs =>
        have : 1 ≤ depthL (q :: qs) := by have := depthT_pos q; rw [depthL]; omega
        rw [if_neg (by simp)]; omega
    · have : (decide (n + 1 ≤ 4096) && decide (d ≤ 200)) = false := by rw [Bool.and_eq_false_iff]; simp only [decide_eq_false_iff_not]; omega
      rw [this]
      exact ⟨fun h => absurd h (by omega), fun _ => rfl⟩
theorem walkL_size : ∀ (l : List PatT) (n m d : Nat), n ≤ 4096 → d ≤ 201 →
    (n + sizeL l ≤ 4096 ∧ d + depthL l ≤ 201 → walkKids sizeStep (n, m) l d = ((n + sizeL l, if l = [] then m else max m (d + depthL l - 1)), true)) ∧
    (¬ (n + sizeL l ≤ 4096 ∧ d + depthL l ≤ 201) → (walkKids sizeStep (n, m) l d).2 = false)
  | [], n, m, d, hn, hd => by
    rw [walkKids, sizeL, depthL]
    exact ⟨fun _ => rfl, fun h => absurd (by omega) h⟩
  | p :: ps, n, m, d, hn, hd => by
    obtain ⟨a1, b1⟩ := walk_size p n m d hn
    have hp := depthT_pos p
    rw [walkKids, sizeL, depthL]
    by_cases c1 : n + sizeT p ≤ 4096 ∧ d + depthT p ≤ 201
    · rw [a1 c1]
      obtain ⟨a2, b2⟩ := walkL_size ps (n + sizeT p) (max m (d + depthT p - 1)) d c1.1 hd
      refine ⟨fun h => ?_, fun h => b2 (by omega)⟩
      show walkKids sizeStep _ ps d = _
      rw [a2 (by omega)]
      refine Prod.ext (Prod.ext (by dsimp only; omega) ?_) rfl
      dsimp only
      rw [if_neg (by simp : ¬ (p :: ps = []))]
      cases ps with
      | nil => rw [if_pos rfl, depthL]; omega
      | cons q qs => rw [if_neg (by simp)]; omega
    · have h1 := b1 c1
      refine ⟨fun h => absurd h (by omega), fun _ => ?_⟩
      cases hr : walkF sizeStep (n, m) p d with
      | mk st ok => rw [hr] at h1; dsimp only at h1; subst h1; rfl
end
def fits (p : PatT) : Prop := sizeT p ≤ 4096 ∧ depthT p ≤ 200
instance (p : PatT) : Decidable (fits p) := by unfold fits; exact inferInstance
theorem sizeF_eq (p : PatT) : sizeF p = if fits p then .tuple #[.int .i64 (sizeT p), .int .i64 (depthT p), .int .i64 0] else .tuple #[.int .i64 0, .int .i64 0, .int .i64 4] := by
  obtain ⟨a, b⟩ := walk_size p 0 0 1 (by omega)
  have hd := depthT_pos p
  unfold sizeF
  by_cases h : fits p
  · have h' := h; unfold fits at h'
    rw [a (by omega), if_pos h]
    simp [sizeR]
  · have h' := h; unfold fits at h'
    have := b (by omega)
    rw [if_neg h]
    simp [sizeR, this]
theorem fits_iff (p : PatT) : (walkF sizeStep (0, 0) p 1).2 = true ↔ fits p := by
  obtain ⟨a, b⟩ := walk_size p 0 0 1 (by omega)
  unfold fits
  by_cases h : sizeT p ≤ 4096 ∧ depthT p ≤ 200
  · rw [a (by omega)]; simp [h]
  · rw [b (by omega)]; simp; omega

/-- A step that looks at nodes alone, over the nodes one by one. -/
def runL {σ : Type} (f : σ → PatT → σ × Bool) : σ → List PatT → σ × Bool
  | st, [] => (st, true)
  | st, p :: ps => match f st p with
    | (st', false) => (st', false)
    | (st', true) => runL f st' ps
theorem runL_append {σ : Type} (f : σ → PatT → σ × Bool) : ∀ (l r : List PatT) (st : σ), runL f st (l ++ r) = match runL f st l with | (st', false) => (st', false) | (st', true) => runL f st' r
  | [], r, st => rfl
  | p :: ps, r, st => by
    simp only [List.cons_append, runL]
    cases f st p with
    | mk st1 ok => cases ok <;> simp [runL_append f ps r st1]
mutual
theorem walk_run {σ : Type} (f : σ → PatT → σ × Bool) : ∀ (p : PatT) (st : σ) (d : Nat), walkF (fun s q _ => f s q) st p d = runL f st (allT p)
  | .mk k t n nm kids, st, d => by
    simp only [walkF, allT, runL]
    cases f st (.mk k t n nm kids) with
    | mk st1 ok => cases ok <;> simp [walkL_run f kids st1 (d + 1)]
theorem walkL_run {σ : Type} (f : σ → PatT → σ × Bool) : ∀ (l : List PatT) (st : σ) (d : Nat), walkKids (fun s q _ => f s q) st l d = runL f st (allL l)
  | [], st, d => by simp only [walkKids, allL, runL]
  | p :: ps, st, d => by
    simp only [walkKids, allL, runL_append, walk_run f p st d]
    cases runL f st (allT p) with
    | mk st1 ok => cases ok <;> simp [walkL_run f ps st1 d]
end
/-- The first error among nodes. -/
def firstF : List PatT → Int
  | [] => 0
  | p :: ps => if nodeF p = 0 then firstF ps else nodeF p
theorem run_wrong : ∀ (l : List PatT) (st : Int), l ≠ [] ∨ st = 0 → (runL (fun _ q => (nodeF q, nodeF q == 0)) st l).1 = firstF l
  | [], st, h => by simp only [runL, firstF]; simpa using h
  | p :: ps, st, _ => by
    simp only [runL, firstF]
    by_cases h : nodeF p = 0
    · rw [if_pos h, h]; exact run_wrong ps 0 (.inr rfl)
    · have : (nodeF p == 0) = false := by simpa using h
      rw [this, if_neg h]
theorem allT_ne (p : PatT) : allT p ≠ [] := by cases p; simp [allT]
theorem wrongF_eq (p : PatT) : wrongF p = if fits p then firstF (allT p) else 4 := by
  unfold wrongF
  by_cases h : fits p
  · rw [if_pos ((fits_iff p).2 h), if_pos h]
    exact (congrArg Prod.fst (walk_run (fun _ q => (nodeF q, nodeF q == 0)) p 0 1)).trans (run_wrong _ _ (.inl (allT_ne p)))
  · rw [if_neg (fun e => h ((fits_iff p).1 e)), if_neg h]
end Go.Proofs.YtdnglicgmlldlaaDoor

/- gram.Reach: its walk. -/
import Derived.Test.YtdkpdomggbiolaaRul3
import Derived.Test.YtdkpdomggbiolaaGm2
import Derived.Deep.LoopGhost
import Derived.BigQuiet
namespace Go.Proofs.Ytdkpdomggbiolaa
set_option linter.all false
open Go.RowKit

/-- What Reach tells. -/
def GReachQ (l : List RuleT) (p : PatT) (w : World) (e : Ending) (w' : World) : Prop :=
  Kept Nix w w' ∧ (wrongF p ≠ 0 → e = .returned (.tuple #[.slice none 0 0, .int .i64 (wrongF p)])) ∧ (wrongF p = 0 → rulesF l ≠ 0 → e = .returned (.tuple #[.slice none 0 0, .int .i64 (rulesF l)])) ∧
  (wrongF p = 0 → rulesF l = 0 → ∃ L v, e = .returned (.tuple #[v, .int .i64 0]) ∧ StrsV w' (fun b => w.heap.size ≤ b ∧ b < w'.heap.size) v L ∧ Rise (L.map bytesOf) ∧ ∀ n, n ∈ L ↔ Rc l p n)
set_option maxRecDepth 100000 in
/-- The closure of Reach: a rule's name is the i-th of those found. -/
theorem reach1_any (S : Nat → Prop) (O Q g o n c i : Nat) (x : ByteArray) (w : World) (hO : w.cell? ⟨O, 0, none⟩ = some (.slice (some ⟨g, o, none⟩) n c)) (hQ : w.cell? ⟨Q, 0, none⟩ = some (.int .i64 i)) (hi : i < n) (hx : w.cell? ⟨g, o + i, none⟩ = some (.string x)) (hlt : O < w.heap.size ∧ Q < w.heap.size ∧ g < w.heap.size) :
    PredR S 13 #[.pointer (some ⟨O, 0, none⟩), .pointer (some ⟨Q, 0, none⟩)] (fun r => decide (r.name = x)) w := by
  intro W v r hk hv
  obtain ⟨ka, cap, rfl, _, _⟩ := hv
  obtain ⟨W1, hW1⟩ : ∃ W1, W1 = W.alloc (.cells #[.string r.name, .int .i64 r.pat.kind, .string r.pat.text, .int .i64 r.pat.n, .string r.pat.name, .slice ka r.pat.kids.length cap] 39) := ⟨_, rfl⟩
  have kA : Kept Nix W W1 := by rw [hW1]; exact (Kept.refl _ _).alloc _
  have RB : RuB W.heap.size r ka cap W1 := by rw [hW1]; exact heap_alloc_new W _
  have x0 : W1.cell? ⟨O, 0, none⟩ = some (.slice (some ⟨g, o, none⟩) n c) := ((hk.trans kA).cell hlt.1 (fun h => h)).trans hO
  have x1 : W1.cell? ⟨Q, 0, none⟩ = some (.int .i64 i) := ((hk.trans kA).cell hlt.2.1 (fun h => h)).trans hQ
  have x2 : W1.cell? ⟨g, o + i, none⟩ = some (.string x) := ((hk.trans kA).cell hlt.2.2 (fun h => h)).trans hx
  have y0 := RB.cells.1
  have fin : Hid (decide (r.name = x) = (r.name.toList == x.toList)) := beqD.symm
  have KA := Lib.hid kA; have HW1 := Lib.hid hW1
  clear hO hQ hx hk kA RB hW1
  show Calls Try.prog 13 #[_, .pointer (some ⟨O, 0, none⟩), .pointer (some ⟨Q, 0, none⟩)] W _
  go_enter Try.func13, Try.ntmps13
  go_upto_region 1 with fail
  rw [← HW1.out]
  clear HW1
  go_quiet (fail)
  go_wp2_with fail
  go_ret
  exact ⟨by rw [fin.out]; try rfl, KA.out.drewN _⟩
/-- What is found so far. -/
structure GrP (l : List RuleT) (p : PatT) (i : Nat) (L : List ByteArray) : Prop where
  nodup : L.Nodup
  sound : ∀ n ∈ L, Rc l p n
  first : ∀ n ∈ callsP p, n ∈ L
  done : ∀ j (h : j < L.length), j < i → ∀ r ∈ l, r.name = L[j] → ∀ n ∈ callsP r.pat, n ∈ L
theorem GrP.len {l : List RuleT} {p : PatT} {i : Nat} {L : List ByteArray} (h : GrP l p i L) : L.length ≤ (allCalls l p).length := nodup_len L _ h.nodup fun x hx => rc_all (h.sound x hx)
theorem rise_nodup {L : List ByteArray} (h : Rise (L.map bytesOf)) : L.Nodup := by
  unfold Rise at h
  rw [List.pairwise_map] at h
  exact h.imp fun hab e => by rw [e] at hab; exact lt_irr _ hab
theorem GrP.start (l : List RuleT) (p : PatT) : GrP l p 0 (calledF p) :=
  ⟨rise_nodup (calledF_rise p), fun n hn => .here n ((calledF_mem p n).1 hn), fun n hn => (calledF_mem p n).2 hn, fun _ _ h => by omega⟩
theorem sort_rise {L : List ByteArray} (h : L.Nodup) : Rise ((sortB L).map bytesOf) ∧ ∀ n, n ∈ sortB L ↔ n ∈ L := by
  have hm : ∀ n, n ∈ sortB L ↔ n ∈ L := by
    intro n
    unfold sortB
    rw [List.mem_map]
    constructor
    · rintro ⟨x, hx, rfl⟩
      rw [(List.mergeSort_perm _ _).mem_iff] at hx
      obtain ⟨y, hy, rfl⟩ := List.mem_map.1 hx
      rw [ofBytes_bytesOf]; exact hy
    · intro hn
      exact ⟨bytesOf n, (List.mergeSort_perm _ _).mem_iff.2 (List.mem_map_of_mem hn), ofBytes_bytesOf n⟩
  refine ⟨?_, hm⟩
  have hp : ((sortB L).map bytesOf) = (L.map bytesOf).mergeSort fun x y => decide (x ≤ y) := by unfold sortB; exact bytesOf_map _
  rw [hp]
  have h1 := merge_sorted (L.map bytesOf)
  have h2 : ((L.map bytesOf).mergeSort fun x y => decide (x ≤ y)).Nodup := (List.mergeSort_perm _ _).nodup_iff.2 (by
    unfold List.Nodup at h ⊢
    rw [List.pairwise_map]
    exact h.imp fun hab e => hab (bytesOf_inj e))
  unfold Rise
  refine (h1.and h2).imp fun {a b} ⟨ha, hb⟩ => ?_
  by_cases hlt : a < b
  · exact hlt
  · exact absurd (lt_tot hlt ha) hb
theorem contG_iff (l : List ByteArray) (n : Nat) (hn : n ≤ l.length) (x : ByteArray) : Lib.containsS (l.take n) x = true ↔ ∃ y, ∃ (h : y < n), l[y]'(by omega) = x := by
  rw [Lib.containsS_iff]
  constructor
  · intro h
    obtain ⟨y, hy, e⟩ := List.getElem_of_mem h
    rw [List.getElem_take] at e
    rw [List.length_take] at hy
    exact ⟨y, by omega, e⟩
  · rintro ⟨y, hy, rfl⟩
    have hl : y < (l.take n).length := by rw [List.length_take]; omega
    have : (l.take n)[y] = l[y]'(by omega) := List.getElem_take
    rw [← this]; exact List.getElem_mem hl
theorem hasG (L : List ByteArray) (x : ByteArray) : Lib.containsS (L.take L.length) x = decide (x ∈ L) := by
  rw [Bool.eq_iff_iff, contG_iff L L.length (Nat.le_refl _) x, decide_eq_true_eq, List.mem_iff_getElem]
theorem OwnS.cells {w : World} {B : Nat} {v : Value} {L : List ByteArray} (h : OwnS w B v L) (h0 : 0 < L.length) : ∃ g cap, v = .slice (some ⟨g, 0, none⟩) L.length cap ∧ B ≤ g ∧ g < w.heap.size ∧ ∀ i (hi : i < L.length), w.cell? ⟨g, 0 + i, none⟩ = some (.string L[i]) := by
  obtain ⟨g, cap, rfl, h1, h2⟩ := h.form h0
  refine ⟨g, cap, rfl, h1, h2, fun i hi => ?_⟩
  have := World.ownsRow.cells h (g := g) rfl i (.string L[i]) (by simp [hi])
  have e : (⟨g, 0, none⟩ : Addr).add i = ⟨g, 0 + i, none⟩ := by unfold Addr.add; split <;> simp_all
  rw [e] at this; exact this
theorem callsP_len (p : PatT) : (callsP p).length ≤ sizeT p := by
  unfold callsP callNames
  rw [List.length_map, ← allT_length p]
  exact List.length_filter_le _ _
theorem allCalls_len {l : List RuleT} {p : PatT} (hp : sizeT p ≤ 1048576) (hl : ∀ r ∈ l, sizeT r.pat ≤ 1048576) : (allCalls l p).length ≤ 1048576 + l.length * 1048576 := by
  unfold allCalls
  rw [List.length_append]
  have h1 := callsP_len p
  have h2 : ∀ q : List RuleT, (∀ r ∈ q, sizeT r.pat ≤ 1048576) → (q.flatMap fun r => callsP r.pat).length ≤ q.length * 1048576 := by
    intro q
    induction q with
    | nil => intro _; simp
    | cons r q ih =>
      intro h
      have h3 := ih fun x hx => h x (List.mem_cons_of_mem _ hx)
      have h4 := callsP_len r.pat; have h5 := h r (List.mem_cons_self ..)
      rw [List.flatMap_cons, List.length_append, List.length_cons]; omega
  have := h2 l hl; omega
/-- The list in hand: at its cell, owned; apart from the counter's cell. -/
structure GrW (B O Q i : Nat) (L : List ByteArray) (a : Option Addr) (c : Nat) (w : World) : Prop where
  cq : Cel w Q 3 (.int .i64 i)
  co : Cel w O 26 (.slice a L.length c)
  own : OwnS w B (.slice a L.length c) L
  ne : Q ≠ O ∧ (Value.slice a L.length c).ownBlock ≠ some O ∧ (Value.slice a L.length c).ownBlock ≠ some Q
  le : B ≤ O ∧ B ≤ Q

theorem GrW.kept {B O Q i : Nat} {L : List ByteArray} {a : Option Addr} {c : Nat} {w w' : World} (h : GrW B O Q i L a c w) (hk : Kept Nix w w') : GrW B O Q i L a c w' :=
  ⟨h.cq.kept hk (fun h => h), h.co.kept hk (fun h => h), h.own.kept hk (fun _ _ h => h), h.ne, h.le⟩
/-- The counter of the next round. -/
theorem GrW.next {B O Q i : Nat} {L : List ByteArray} {a : Option Addr} {c : Nat} {w : World} (h : GrW B O Q i L a c w) : GrW B O w.heap.size (i + 1) L a c (w.alloc (.cells #[.int .i64 ((i : Int) + 1)] 3)) := by
  have hO := h.co.lt; have hlt := fun k hk => (World.ownsRow.lt h.own k hk).2
  have hk : Kept Nix w (w.alloc (.cells #[.int .i64 ((i : Int) + 1)] 3)) := (Kept.refl _ w).alloc _
  exact ⟨Cel.new w _ _, h.co.kept hk (fun h => h), h.own.kept hk (fun _ _ h => h), ⟨by omega, h.ne.2.1, fun e => by have := hlt _ e; omega⟩, ⟨h.le.1, by have := h.le.1; omega⟩⟩
/-- One name more. -/
theorem GrW.push {B O Q i : Nat} {L : List ByteArray} {x : ByteArray} {a : Option Addr} {c g cap : Nat} {w w1 w' : World} (h : GrW B O Q i L a c w) (k1 : Kept Nix w w1) (ho : w'.ownsRow B 9 1 (.slice (some ⟨g, 0, none⟩) (L.length + 1) cap) (L.length + 1) (L.map Value.string ++ [.string x])) (hg : w1.grownBy w' (Value.slice a L.length c).ownBlock)
    (hl : (Value.slice a L.length c).ownBlock = some g ∨ g = w1.heap.size) : GrW B O Q i (L ++ [x]) (some ⟨g, 0, none⟩) cap (w'.setCell ⟨O, 0, none⟩ (.slice (some ⟨g, 0, none⟩) (L.length + 1) cap)) := by
  have h1 := h.kept k1
  have hOl := h1.co.lt; have hQl := h1.cq.lt
  have hgO : g ≠ O := by
    rcases hl with e | e
    · exact fun e2 => h.ne.2.1 (by rw [e, e2])
    · omega
  have hgQ : g ≠ Q := by
    rcases hl with e | e
    · exact fun e2 => h.ne.2.2 (by rw [e, e2])
    · omega
  have hown : OwnS w' B (.slice (some ⟨g, 0, none⟩) (L ++ [x]).length cap) (L ++ [x]) := by unfold OwnS; simpa using ho
  have kO : Kept (· = O) w' (w'.setCell ⟨O, 0, none⟩ (.slice (some ⟨g, 0, none⟩) (L.length + 1) cap)) := (Kept.refl (· = O) w').setCell (p := ⟨O, 0, none⟩) (.inl rfl) _
  refine ⟨(h1.cq.grown hg h.ne.2.2).kept kO h.ne.1, ?_, hown.kept kO (fun k hk e => hgO (by cases hk; exact e)), ⟨h.ne.1, fun e => hgO (by cases e; rfl), fun e => hgQ (by cases e; rfl)⟩, h.le⟩
  have := (h1.co.grown hg h.ne.2.1).set (.slice (some ⟨g, 0, none⟩) (L.length + 1) cap)
  simpa using this
/-- The blocks that a list in hand may write. -/
def XVg (v : Value) (N b : Nat) : Prop := v.ownBlock = some b ∨ N ≤ b
set_option maxRecDepth 100000 in
set_option maxHeartbeats 8000000 in
theorem gReach_any (l : List RuleT) (p : PatT) (al : Option Addr) (cl : Nat) (v : Value) (w : World) (hl : RulesAt w (· < w.heap.size) al l) (hlen : l.length ≤ 1048576) (hcl : l.length ≤ cl) (hp : PatV w (· < w.heap.size) v p) (hsz : sizeT p ≤ 1048576) :
    Calls Try.prog 4 #[.slice al l.length cl, v] w (GReachQ l p w) := by
  have HA : Hid (∀ wy, Kept Nix w wy → RulesAt wy (· < w.heap.size) al l) := fun wy hk => hl.to hk (Safe.lt (Nat.le_refl _)) (fun _ h => h)
  have HAw : Hid (∀ wy, Kept Nix w wy → RulesAt wy (· < wy.heap.size) al l) := fun wy hk => hl.to hk (Safe.lt (Nat.le_refl _)) (fun _ h => Nat.lt_of_lt_of_le h hk.size)
  have HPV : Hid (∀ wy, Kept Nix w wy → PatV wy (· < wy.heap.size) v p) := fun wy hk => hp.kept' hk
  obtain ⟨ka, cap, rfl, hz, hks⟩ := hp
  obtain ⟨i0, hi0, hz0, hz1, hz2⟩ := info_parts Try.infoS
  have eg : ∀ args wy, (callFunc 13 args).run Try.prog wy = .ok (.enter 13 args) wy := fun _ _ => by kernel_rfl
  have EG := Lib.hid eg
  have hmf : ∀ (fn : Fn) (first cap : Array Value) (w : World), (Instr.makeFunc fn first cap).run Try.prog w = .ok (.func fn first cap) w := fun _ _ _ _ => rfl
  obtain ⟨w1, hw1⟩ : ∃ w1, w1 = w.alloc (.cells #[.int .i64 p.kind, .string p.text, .int .i64 p.n, .string p.name, .slice ka p.kids.length cap] 25) := ⟨_, rfl⟩
  have B1 : Hid (Box5 w.heap.size (.int .i64 p.kind) (.string p.text) (.int .i64 p.n) (.string p.name) (.slice ka p.kids.length cap) w1) := by rw [hw1]; exact Box5.new ..
  have K1 : Hid (Kept Nix w w1) := by rw [hw1]; exact (Kept.refl _ _).alloc _
  have HW1 := Lib.hid hw1; have HKS := Lib.hid hks; have HZ := Lib.hid hz
  have hsz' : sizeT p ≤ 100000000 := by omega
  clear hl eg hw1 hks hz
  obtain ⟨b0, b1, b2, b3, b4⟩ : _ ∧ _ ∧ _ ∧ _ ∧ _ := ⟨B1.out.h0, B1.out.h1, B1.out.h2, B1.out.h3, B1.out.h4⟩
  by_cases hw0 : wrongF p = 0
  rotate_left
  · have z1 : (wrongF p != 0) = true := by simpa using hw0
    have HW0 := Lib.hid hw0
    clear hw0
    go_enter Try.func4, Try.ntmps4
    go_upto_region 1 with fail
    rw [← HW1.out]
    go_wp2_with (go_at_call 9; (refine (Wrong_any p _ w1 (HPV.out w1 K1.out) hsz').mono ?_); rintro e w2 ⟨rfl, k2_⟩; have K2 := Lib.hid (K1.out.trans k2_); clear k2_)
    go_ret2
    exact ⟨K2.out, fun _ => rfl, fun h => absurd h HW0.out, fun h => absurd h HW0.out⟩
  have HW0 := Lib.hid hw0
  clear hw0
  by_cases hr0 : rulesF l = 0
  rotate_left
  · have z1 : (rulesF l != 0) = true := by simpa using hr0
    have HR0 := Lib.hid hr0
    clear hr0
    go_enter Try.func4, Try.ntmps4
    go_upto_region 1 with fail
    rw [← HW1.out]
    go_wp2_with (first
      | (go_at_call 9; (refine (Wrong_any p _ w1 (HPV.out w1 K1.out) hsz').mono ?_); rintro e w2 ⟨rfl, k2_⟩; rw [HW0.out]; have K2 := Lib.hid (K1.out.trans k2_); clear k2_)
      | (go_at_call 10; (refine (rules_any l al cl w2 (HAw.out w2 K2.out) hlen hcl).mono ?_); rintro e w3 ⟨rfl, k3_⟩; have K3 := Lib.hid (K2.out.trans k3_); clear k3_))
    go_ret2
    exact ⟨K3.out, fun h => absurd HW0.out h, fun _ _ => rfl, fun _ h => absurd h HR0.out⟩
  have HR0 := Lib.hid hr0
  clear hr0
  go_enter Try.func4, Try.ntmps4
  go_upto_region 1 with fail
  rw [← HW1.out]
  go_upto_region 9 with (first
    | (go_at_call 9; (refine (Wrong_any p _ w1 (HPV.out w1 K1.out) hsz').mono ?_); rintro e w2 ⟨rfl, k2_⟩; rw [HW0.out]; have K12 := Lib.hid k2_; have K2 := Lib.hid (K1.out.trans k2_); clear k2_)
    | (go_at_call 10; (refine (rules_any l al cl w2 (HAw.out w2 K2.out) hlen hcl).mono ?_); rintro e w3 ⟨rfl, k3_⟩; rw [HR0.out]; have K13 := Lib.hid (K12.out.trans k3_); have K3 := Lib.hid (K2.out.trans k3_); have B3 := B1.out.kept K13.out (fun h => h); have c0 := B3.h0; have c1 := B3.h1; have c2 := B3.h2; have c3 := B3.h3; have c4 := B3.h4; clear k3_ B3)
    | (go_at_call 11; (refine (Names_any p _ w3 (HPV.out w3 K3.out) hsz').mono ?_); rintro e w4 ⟨k4_, hn_⟩; rw [if_pos HW0.out] at hn_; obtain ⟨_, rfl, ⟨u1, u2, rfl, -, -, o4_⟩⟩ := hn_; obtain ⟨a4, d4, rfl⟩ := o4_.shape; have O4 := Lib.hid o4_; have K4 := Lib.hid (K3.out.trans k4_); have h34 := Lib.hid k4_.size; clear k4_ o4_))
  obtain ⟨O, hOd⟩ : ∃ O, O = w4.heap.size := ⟨_, rfl⟩
  obtain ⟨w6, hw6⟩ : ∃ w6, w6 = (w4.alloc (.cells #[.slice a4 (calledF p).length d4] 26)).alloc (.cells #[.int .i64 0] 3) := ⟨_, rfl⟩
  have hB4 : w.heap.size ≤ w4.heap.size := K4.out.size
  have G6 : Hid (GrW w.heap.size O (O + 1) 0 (calledF p) a4 d4 w6) := by
    have hlt := fun k hk => (World.ownsRow.lt O4.out k hk).2
    have k46 : Kept Nix w4 w6 := by rw [hw6]; exact ((Kept.refl _ _).alloc _).alloc _
    refine ⟨by rw [hw6, hOd]; exact Cel.new' (by simp), by rw [hw6, hOd]; exact (Cel.new _ _ _).alloc _, ?_, ⟨by omega, fun e => by have := hlt _ e; omega, fun e => by have := hlt _ e; omega⟩, ⟨by omega, by omega⟩⟩
    exact (O4.out.base (by have := K3.out.size; omega)).kept k46 (fun _ _ h => h)
  have K6 : Hid (Kept Nix w w6) := by rw [hw6]; exact (K4.out.alloc _).alloc _
  have hU : Hid ((allCalls l p).length ≤ 70000000) := by
    have h64 := (rules_right HR0.out).1
    have := allCalls_len (l := l) hsz (fun r hr => by
      obtain ⟨k, hk, rfl⟩ := List.mem_iff_getElem.1 hr
      obtain ⟨b, o, _, hc⟩ := (HA.out w (Kept.refl _ _)) (by omega)
      exact (hc k hk).2.2.1)
    unfold Hid; omega
  have HW6 := Lib.hid hw6; have HOD := Lib.hid hOd
  rw [← hOd]
  rw [← hw6]
  have HST := Lib.hid (GrP.start l p)
  clear hw6 hOd HW6 b0 b1 b2 b3 b4 c0 c1 c2 c3 c4 hB4
  have hlP : Hid ((calledF p).length ≤ (allCalls l p).length) := HST.out.len
  generalize calledF p = L0 at *
  go_loopg [11] ((allCalls l p).length) (fun f t wr => ∃ (Q i : Nat) (L : List ByteArray) (a : Option Addr) (c : Nat), t = .pointer (some ⟨Q, 0, none⟩) ∧ GrW w.heap.size O Q i L a c wr ∧ Hid (GrP l p i L) ∧ i ≤ L.length ∧ Hid (f = (allCalls l p).length - i) ∧ Kept Nix w wr)
  case atStart => exact ⟨O + 1, 0, L0, a4, d4, rfl, G6.out, HST, Nat.zero_le _, rfl, K6.out⟩
  case round =>
    obtain ⟨Q, i, L, a, c, rfl, hG, hP, hi, hf, hK⟩ := hrel
    have HG := Lib.hid hG; have KR := Lib.hid hK
    have q0 := hG.cq.cell; have o0 := hG.co.cell
    have hLU : L.length ≤ 70000000 := by have := hP.out.len; have := hU.out; omega
    clear hG hK
    by_cases hlt : i < L.length
    rotate_left
    · obtain rfl : i = L.length := by omega
      have hfin := Lib.hid (sort_rise hP.out.nodup)
      have hiff : Hid (∀ n, n ∈ L ↔ Rc l p n) := rc_iff hP.out.first (fun m hm r hr he n hn => by
        obtain ⟨j, hj, rfl⟩ := List.mem_iff_getElem.1 hm
        exact hP.out.done j hj hj r hr he n hn) hP.out.sound
      go_wp2_with (go_at_call 15; (refine (sortS_any w.heap.size _ L wr HG.out.own (by omega)).mono ?_); rintro e w9 ⟨rfl, o9_, g9_⟩; have O9 := Lib.hid o9_; have C9 := HG.out.co.grown g9_ HG.out.ne.2.1; have c9 := C9.cell; have K9 : Hid (Kept Nix w w9) := KR.out.grown g9_ (fun k hk => .inr (World.ownsRow.lt HG.out.own k hk).1); clear g9_ o9_)
      go_ret2
      refine ⟨K9.out, fun h => absurd HW0.out h, fun _ h => absurd HR0.out h, fun _ _ => ⟨sortB L, .slice a L.length c, rfl, ?_, hfin.out.1, fun n => (hfin.out.2 n).trans (hiff.out n)⟩⟩
      exact O9.out.strs
    · obtain ⟨g, cp, hv, hgB, hgl, hcx⟩ := HG.out.own.cells (by omega)
      simp only [Value.slice.injEq, true_and] at hv
      obtain ⟨rfl, rfl⟩ := hv
      have hQO : Hid (Q < wr.heap.size ∧ O < wr.heap.size) := ⟨HG.out.cq.lt, HG.out.co.lt⟩
      have HIX : Hid (Calls Try.prog 12 #[.slice al l.length cl, .func (.func 13) #[] #[.pointer (some ⟨O, 0, none⟩), .pointer (some ⟨Q, 0, none⟩)]] wr (IntQ (findR l L[i]) wr)) := by
        have h := idxR_any 13 #[.pointer (some ⟨O, 0, none⟩), .pointer (some ⟨Q, 0, none⟩)] (fun r => decide (r.name = L[i])) EG.out (· < w.heap.size) l al cl wr (HA.out wr KR.out) (Safe.lt KR.out.size) hlen (reach1_any _ O Q g 0 L.length c i L[i] wr o0 q0 hlt (hcx i hlt) ⟨hQO.out.2, hQO.out.1, hgl⟩)
        rw [idxGo_find] at h
        exact h
      have hfu : Hid ((allCalls l p).length - (i + 1) < gk) := by have := hf.out; have := hP.out.len; unfold Hid; omega
      obtain ⟨x, hx⟩ : ∃ x, x = L[i] := ⟨_, rfl⟩
      rw [← hx] at HIX
      have HX := Lib.hid hx
      clear hcx hx
      rcases findR_at l x with ⟨hm1, hnone⟩ | ⟨k, hk, hkl, hkn⟩
      · rw [hm1] at HIX
        have step : Hid (GrP l p (i + 1) L) := ⟨hP.out.nodup, hP.out.sound, hP.out.first, fun j hj hji r hr he => by
          rcases Nat.lt_or_ge j i with h1 | h1
          · exact hP.out.done j hj h1 r hr he
          · obtain rfl : j = i := by omega
            exact absurd (he.trans HX.out.symm) (hnone r hr)⟩
        clear hnone hm1 hP
        go_wp2_with (go_at_call 12; (refine HIX.out.mono ?_); rintro e w7 ⟨rfl, k7_⟩; have G7 := Lib.hid (HG.out.kept k7_); have K7 := Lib.hid (KR.out.trans k7_); have q7 := G7.out.cq.cell; clear k7_)
        have G8 := Lib.hid G7.out.next
        go_roundg ((allCalls l p).length - (i + 1))
        case measure => exact hfu.out
        case rel => exact ⟨_, i + 1, L, _, _, rfl, G8.out, step, by omega, rfl, K7.out.alloc _⟩
      · rw [hk] at HIX
        obtain ⟨r, hr⟩ : ∃ r, r = l[k] := ⟨_, rfl⟩
        have hrn : Hid (r.name = x) := by unfold Hid; rw [hr]; exact hkn
        have hrm : Hid (r ∈ l) := by rw [hr]; exact List.getElem_mem hkl
        have hw0r : Hid (wrongF r.pat = 0) := ((rules_right HR0.out).2.1 r hrm.out).2
        have HR := Lib.hid hr
        have hkcl : k < cl := by omega
        clear hk hr hkn
        go_upto_region 13 with (go_at_call 12; (refine HIX.out.mono ?_); rintro e w7 ⟨rfl, k7_⟩; have G7 := Lib.hid (HG.out.kept k7_); have K7 := Lib.hid (KR.out.trans k7_); clear k7_)
        obtain ⟨b, o, rfl, hc⟩ := (HAw.out w7 K7.out) (by omega)
        have hrk := hc k hkl
        rw [← HR.out] at hrk
        obtain ⟨-, p1, p2, p3, p4, ka2, cap2, p5, hks2⟩ := hrk.cells
        obtain ⟨-, -, hsz2, -, hpat2⟩ := hrk
        have HPV2 : Hid (PatV w7 (· < w7.heap.size) (.agg #[.int .i64 r.pat.kind, .string r.pat.text, .int .i64 r.pat.n, .string r.pat.name, .slice ka2 r.pat.kids.length cap2]) r.pat) := ⟨ka2, cap2, rfl, hpat2.open.2.1, hks2⟩
        have hsz3 : sizeT r.pat ≤ 100000000 := by omega
        have HS2 := Lib.hid hsz2
        clear hc hpat2 hks2 q0 o0
        go_upto_region 15 with (go_at_call 11; (refine (Names_any r.pat _ w7 HPV2.out hsz3).mono ?_); rintro e w8 ⟨k8_, hn_⟩; rw [if_pos hw0r.out] at hn_; obtain ⟨_, rfl, ⟨u3, u4, rfl, -, s4_, -⟩⟩ := hn_; obtain ⟨a8, d8, rfl, h8_⟩ := s4_; have S8 := Lib.hid h8_; have G8 := Lib.hid (G7.out.kept k8_); have K8 := Lib.hid (K7.out.trans k8_); clear k8_ h8_)
        have hNm : Hid (∀ n, n ∈ calledF r.pat ↔ n ∈ callsP r.pat) := calledF_mem r.pat
        have hNL : Hid ((calledF r.pat).length ≤ 1048576) := by
          have h1 := nodup_len (calledF r.pat) (callsP r.pat) (rise_nodup (calledF_rise r.pat)) fun n hn => (calledF_mem r.pat n).1 hn
          have h2 := callsP_len r.pat; have h3 := HS2.out
          unfold Hid; omega
        have hG78 : Hid (∀ kk, (Value.slice (some ⟨g, 0, none⟩) L.length c).ownBlock = some kk → kk < w7.heap.size) := fun kk hk => (World.ownsRow.lt G7.out.own kk hk).2
        have hO7 : Hid (O < w7.heap.size) := G7.out.co.lt
        generalize calledF r.pat = NL at *
        have hNLb : NL.length ≤ 1048576 := hNL.out
        clear p1 p2 p3 p4 p5
        have hGB : Hid (∀ kk, (Value.slice (some ⟨g, 0, none⟩) L.length c).ownBlock = some kk → w.heap.size ≤ kk) := fun kk hk => (World.ownsRow.lt G7.out.own kk hk).1
        generalize hv0 : Value.slice (some ⟨g, 0, none⟩) L.length c = v0 at hG78 hGB
        have HV0 := Lib.hid hv0
        clear hv0
        go_loopw [57] (fun t wr => ∃ (m : Nat) (L2 : List ByteArray) (a2 : Option Addr) (c2 : Nat), m ≤ NL.length ∧ t = .int .i64 m ∧ GrW w.heap.size O Q i L2 a2 c2 wr ∧ Hid (GrP l p i L2) ∧ Hid (∃ E, L2 = L ++ E) ∧ Hid (∀ y ∈ NL.take m, y ∈ L2) ∧ Kept (fun b => b = O ∨ XVg v0 w8.heap.size b) w8 wr ∧ Hid (∀ kk, (Value.slice a2 L2.length c2).ownBlock = some kk → XVg v0 w8.heap.size kk)) (fun t _ => NL.length - (intOf t).toNat)
        case atStart => exact ⟨0, L, _, c, Nat.zero_le _, rfl, G8.out, ⟨hP.out.nodup, hP.out.sound, hP.out.first, hP.out.done⟩, ⟨[], by simp⟩, fun y hy => by simp at hy, Kept.refl _ _, fun kk hk => .inl (by rw [← HV0.out]; exact hk)⟩
        case round =>
          obtain ⟨m, L2, a2, c2, hm, rfl, hG2, hP2, hE, hT, hK2, hO2⟩ := hrel
          have HG2 := Lib.hid hG2; have HK2 := Lib.hid hK2
          have q2 := hG2.cq.cell; have o2 := hG2.co.cell; have f2 := hG2.co.free
          have hL2U : L2.length ≤ 70000000 := by have := hP2.out.len; have := hU.out; omega
          have K0R : Hid (Kept Nix w wr) := K8.out.step hK2 (fun y hy => by
            rcases hy with rfl | hy | hy
            · exact .inr HG2.out.le.1
            · exact .inr (hGB.out y hy)
            · exact .inr (Nat.le_trans K8.out.size hy))
          clear hG2 hK2
          by_cases hlm : m < NL.length
          · obtain ⟨gb, go_, he, ⟨hb1, hb2⟩, hcs⟩ := S8.out (by omega)
            obtain rfl := he
            have x5 : wr.cell? ⟨gb, go_ + m, none⟩ = some (.string NL[m]) := (HK2.out.cell hb2 (fun h => by
              rcases h with h | h | h
              · have := hO7.out; omega
              · have := hG78.out gb h; omega
              · omega)).trans (hcs m hlm)
            have hynl : Hid (NL[m] ∈ callsP r.pat) := (hNm.out _).1 (List.getElem_mem hlm)
            have htk : Hid (NL.take (m + 1) = NL.take m ++ [NL[m]]) := List.take_succ_eq_append_getElem hlm
            have hL2pos : 0 < L2.length := by obtain ⟨E, rfl⟩ := hE.out; simp; omega
            obtain ⟨g2, cp2, hv2, hgB2, hgl2, hcx2⟩ := HG2.out.own.cells hL2pos
            simp only [Value.slice.injEq, true_and] at hv2
            obtain ⟨rfl, rfl⟩ := hv2
            have HCX : Hid (∀ j, j < L2.length → wr.cell? ⟨g2, 0 + j, none⟩ = some (.string (L2.getD j ByteArray.empty))) := fun j hj => by rw [hcx2 j hj, List.getD_eq_getElem?_getD, List.getElem?_eq_getElem hj]; rfl
            generalize NL[m] = y at *
            clear hcs hcx2
            by_cases hin : y ∈ L2
            · have hq : Lib.containsS (L2.take L2.length) y = true := by rw [hasG]; exact decide_eq_true hin
              have HQ := Lib.hid hq
              have step : Hid (∀ z ∈ NL.take (m + 1), z ∈ L2) := by
                rw [htk.out]; intro z hz
                rcases List.mem_append.1 hz with h | h
                · exact hT.out z h
                · rw [List.mem_singleton.1 h]; exact hin
              clear hin hq
              go_wp2_with (go_at_call 14; refine (Try.slices_Contains_string g2 0 L2.length c2 L2 y wr (Nat.le_refl _) (by omega) HCX.out).mono ?_; rintro e w' ⟨rfl, rfl⟩; rw [HQ.out])
              go_roundw
              case rel => exact ⟨m + 1, L2, _, c2, by omega, by go_num, HG2.out, hP2, hE, step, HK2.out, hO2⟩
              case measure => simp [intOf]; omega
            · have hq : Lib.containsS (L2.take L2.length) y = false := by rw [hasG]; exact decide_eq_false hin
              have HQ := Lib.hid hq
              have hP3 : Hid (GrP l p i (L2 ++ [y])) := by
                obtain ⟨E, hEe⟩ := hE.out
                refine ⟨?_, ?_, fun n hn => List.mem_append_left _ (hP2.out.first n hn), fun j hj hji q hq he n hn => ?_⟩
                · rw [List.nodup_append]
                  refine ⟨hP2.out.nodup, by simp, fun a ha b hb e => ?_⟩
                  rw [List.mem_singleton.1 hb] at e; subst e; exact hin ha
                · intro n hn
                  rcases List.mem_append.1 hn with h | h
                  · exact hP2.out.sound n h
                  · rw [List.mem_singleton.1 h]
                    refine .there x r y (hP2.out.sound x ?_) hrm.out hrn.out hynl.out
                    rw [hEe, HX.out]; exact List.mem_append_left _ (List.getElem_mem hlt)
                · have hj2 : j < L2.length := by rw [hEe]; simp; omega
                  rw [List.getElem_append_left hj2] at he
                  exact List.mem_append_left _ (hP2.out.done j hj2 hji q hq he n hn)
              have hE3 : Hid (∃ E, L2 ++ [y] = L ++ E) := by obtain ⟨E, hEe⟩ := hE.out; exact ⟨E ++ [y], by rw [hEe, List.append_assoc]⟩
              have step : Hid (∀ z ∈ NL.take (m + 1), z ∈ L2 ++ [y]) := by
                rw [htk.out]; intro z hz
                rcases List.mem_append.1 hz with h | h
                · exact List.mem_append_left _ (hT.out z h)
                · exact List.mem_append_right _ h
              have hbase : Hid (w.heap.size ≤ wr.heap.size) := K0R.out.size
              clear hin hq hP2 hE hT
              go_wp2_with (first
                | (go_at_call 14; refine (Try.slices_Contains_string g2 0 L2.length c2 L2 y wr (Nat.le_refl _) (by omega) HCX.out).mono ?_; rintro e w' ⟨rfl, hw_⟩; obtain rfl := hw_.symm; rw [HQ.out])
                | (at_builtin; go_loud (refine wpList_append_lies _ rfl (.tmp 65) (.tmp 67) 26 rfl w.heap.size 9 i0 (.string ⟨#[]⟩) 1 16 Try.underlying26 hi0 hz0 hz1 hz2 rfl (by decide) _ L2.length (L2.map Value.string) rfl (World.ownsRow.alloc HG2.out.own _) ⟨wr.heap.size, 0, none⟩ 1 1 [.string y] rfl rfl (cell_one_new _ _ _) (by intro u hu; simp at hu; subst hu; rfl) (by decide) (by unfold maxLen; omega) (by omega) (by have := hbase.out; simp; omega) (wr.heap.size + 1) (by simp) ?_); intro g3 c3 w9 own9 grow9 lie9 _; have GP := Lib.hid (HG2.out.push ((Kept.refl Nix wr).alloc _) own9 grow9 (by rcases lie9 with e | e; exact .inl e; exact .inr (by simpa using e))); have LIE := Lib.hid lie9; have C9 := (HG2.out.co.alloc (.cells #[.string y] 9)).grown grow9 HG2.out.ne.2.1; have f9 := C9.free; have o9 := C9.cell; have GRW := Lib.hid grow9; clear own9 grow9 lie9 C9))
              have hX9 : Hid (∀ kk, (Value.slice (some ⟨g3, 0, none⟩) (L2.length + 1) c3).ownBlock = some kk → XVg v0 w8.heap.size kk) := fun kk hk => by
                cases hk
                rcases LIE.out with e | e
                · exact hO2.out _ e
                · exact .inr (by have h1 := HK2.out.size; show w8.heap.size ≤ g3; omega)
              have K9 : Hid (Kept (fun b => b = O ∨ XVg v0 w8.heap.size b) w8 (w9.setCell ⟨O, 0, none⟩ (.slice (some ⟨g3, 0, none⟩) (L2.length + 1) c3))) := ((HK2.out.alloc _).grown GRW.out (fun kk hk => .inl (.inr (hO2.out kk hk)))).setCell (p := ⟨O, 0, none⟩) (.inl (.inl rfl)) _
              go_roundw
              case rel => exact ⟨m + 1, L2 ++ [y], some ⟨g3, 0, none⟩, c3, by omega, by go_num, by have h_ := GP.out; exact h_, hP3, hE3, step, by have h_ := K9.out; exact h_, by have h_ := hX9.out; rw [List.length_append]; exact h_⟩
              case measure => simp [intOf]; omega
          · obtain rfl : m = NL.length := by omega
            have step : Hid (GrP l p (i + 1) L2) := ⟨hP2.out.nodup, hP2.out.sound, hP2.out.first, fun j hj hji q hq he n hn => by
              rcases Nat.lt_or_ge j i with h1 | h1
              · exact hP2.out.done j hj h1 q hq he n hn
              · obtain rfl : j = i := by omega
                obtain ⟨E, hEe⟩ := hE.out
                have hx2 : L2[j] = x := by
                  have : L2[j] = L[j] := by simp only [hEe]; exact List.getElem_append_left hlt
                  rw [this, HX.out]
                have : q = r := name_unique (rules_right HR0.out).2.2 hq hrm.out (by rw [he, hx2, hrn.out])
                subst this
                exact hT.out n (by rw [List.take_length]; exact (hNm.out n).2 hn)⟩
            have hiL : Hid (i + 1 ≤ L2.length) := by obtain ⟨E, hEe⟩ := hE.out; unfold Hid; rw [hEe]; simp; omega
            have G9 := Lib.hid HG2.out.next
            clear hP2 hE hT
            go_wp2_with fail
            go_roundg ((allCalls l p).length - (i + 1))
            case measure => exact hfu.out
            case rel => exact ⟨_, i + 1, L2, _, _, rfl, G9.out, step, hiL.out, rfl, K0R.out.alloc _⟩
end Go.Proofs.Ytdkpdomggbiolaa

/- slices.IndexFunc, slices.ContainsFunc over rules, whatever the closure. -/
import Derived.Test.YtdkpdomggbiolaaRul
namespace Go.Proofs.Ytdkpdomggbiolaa
set_option linter.all false
open Go.RowKit

/-- A rule as a value. -/
def RuleV (w : World) (S : Nat → Prop) (v : Value) (r : RuleT) : Prop :=
  ∃ ka cap, v = .agg #[.string r.name, .int .i64 r.pat.kind, .string r.pat.text, .int .i64 r.pat.n, .string r.pat.name, .slice ka r.pat.kids.length cap] ∧ (r.pat.text.size < 1000000000 ∧ r.pat.name.size < 1000000000 ∧ r.pat.kids.length < 1000000000) ∧ PatsAt w S ka r.pat.kids
/-- What a closure is asked: it tells p of a rule, and leaves what was there. -/
def PredR (S : Nat → Prop) (g : Nat) (lb : Array Value) (p : RuleT → Bool) (w : World) : Prop :=
  ∀ (W : World) (v : Value) (r : RuleT), Kept Nix w W → RuleV W S v r → Calls Try.prog g (#[v] ++ lb) W (BoolQ (p r) W)
def idxGo (p : RuleT → Bool) : Nat → List RuleT → Int
  | _, [] => -1
  | i, r :: q => if p r = true then (i : Int) else idxGo p (i + 1) q
theorem idxGo_drop (p : RuleT → Bool) (l : List RuleT) (j : Nat) (h : j < l.length) : idxGo p j (l.drop j) = if p l[j] = true then (j : Int) else idxGo p (j + 1) (l.drop (j + 1)) := by
  rw [List.drop_eq_getElem_cons h, idxGo]
theorem idxGo_find (n : ByteArray) : ∀ (l : List RuleT) (i : Nat), idxGo (fun r => decide (r.name = n)) i l = findGo n i l
  | [], _ => rfl
  | r :: q, i => by
    rw [idxGo, findGo, idxGo_find n q (i + 1)]
    by_cases h : r.name = n
    · rw [if_pos h, if_pos (decide_eq_true h)]
    · rw [if_neg h, if_neg (by rw [decide_eq_false h]; decide)]
theorem idxGo_any (p : RuleT → Bool) : ∀ (l : List RuleT) (i : Nat), decide (0 ≤ idxGo p i l) = l.any p
  | [], i => by rw [idxGo]; rfl
  | r :: q, i => by
    rw [idxGo, List.any_cons]
    cases h : p r with
    | true => rw [if_pos rfl]; simp
    | false => rw [if_neg (by decide), idxGo_any p q (i + 1)]; simp

set_option maxRecDepth 100000 in
set_option maxHeartbeats 2000000 in
theorem idxR_any (g : Nat) (lb : Array Value) (p : RuleT → Bool) (eg : ∀ args w, (callFunc g args).run Try.prog w = .ok (.enter g args) w) (S : Nat → Prop) (l : List RuleT) (al : Option Addr) (cl : Nat) (w : World) (hl : RulesAt w S al l) (hS : Safe S Nix w.heap.size) (hlen : l.length ≤ 1048576) (hp : PredR S g lb p w) :
    Calls Try.prog 12 #[.slice al l.length cl, .func (.func g) #[] lb] w (IntQ (idxGo p 0 l) w) := by
  have HL := Lib.hid hl; have HS := Lib.hid hS; have HP := Lib.hid hp
  clear hl hS hp
  go_enter Try.func12, Try.ntmps12
  go_wp2_with fail
  go_loopw [8] (fun i wr => ∃ j : Nat, j ≤ l.length ∧ i = .int .i64 j ∧ Hid (idxGo p 0 l = idxGo p j (l.drop j)) ∧ Kept Nix w wr) (fun i _ => l.length - (intOf i).toNat)
  case atStart => exact ⟨0, Nat.zero_le _, rfl, by unfold Hid; rw [List.drop_zero], Kept.refl _ _⟩
  case round =>
    obtain ⟨j, hj, rfl, hno, hk⟩ := hrel
    have KW := Lib.hid hk
    by_cases hlt : j < l.length
    · obtain ⟨b, o, rfl, hc⟩ := (HL.out.to hk HS.out (fun _ h => h)) (by omega)
      have hr := hc j hlt
      obtain ⟨q0, q1, q2, q3, q4, ka, cap, q5, hks⟩ := hr.cells
      obtain ⟨_, _, _, _, hpat⟩ := hr
      have hz := hpat.open.2.1
      have hd := idxGo_drop p l j hlt
      generalize l[j] = r at *
      have hcall := Lib.hid (HP.out wr _ r KW.out ⟨ka, cap, rfl, hz, hks⟩)
      clear hc hk hpat hks hz
      cases hpr : p r with
      | true =>
        rw [if_pos hpr] at hd
        have fin := Lib.hid (hno.out.trans hd)
        rw [hpr] at hcall
        clear hd hpr hno
        go_wp2_with (go_at_fn g; refine hcall.out.mono ?_; rintro e w2 ⟨rfl, k2_⟩; have K2 := Lib.hid (KW.out.trans k2_); clear k2_)
        go_ret
        exact ⟨by rw [fin.out]; try rfl, K2.out⟩
      | false =>
        rw [if_neg (by rw [hpr]; decide)] at hd
        have step := Lib.hid (hno.out.trans hd)
        rw [hpr] at hcall
        clear hd hpr hno
        go_wp2_with (go_at_fn g; refine hcall.out.mono ?_; rintro e w2 ⟨rfl, k2_⟩; have K2 := Lib.hid (KW.out.trans k2_); clear k2_)
        go_roundw
        case rel => exact ⟨j + 1, by omega, by go_num, step, K2.out⟩
        case measure => simp [intOf]; omega
    · obtain rfl : j = l.length := by omega
      have fin : Hid (idxGo p 0 l = -1) := by unfold Hid; rw [hno.out, List.drop_length, idxGo]
      go_wp2_with fail
      go_ret
      exact ⟨by rw [fin.out]; try rfl, KW.out⟩
set_option maxRecDepth 100000 in
theorem hasR_any (g : Nat) (lb : Array Value) (p : RuleT → Bool) (eg : ∀ args w, (callFunc g args).run Try.prog w = .ok (.enter g args) w) (S : Nat → Prop) (l : List RuleT) (al : Option Addr) (cl : Nat) (w : World) (hl : RulesAt w S al l) (hS : Safe S Nix w.heap.size) (hlen : l.length ≤ 1048576) (hp : PredR S g lb p w) :
    Calls Try.prog 33 #[.slice al l.length cl, .func (.func g) #[] lb] w (BoolQ (l.any p) w) := by
  have HI := Lib.hid (idxR_any g lb p eg S l al cl w hl hS hlen hp)
  have fin := Lib.hid (idxGo_any p l 0)
  clear hl hS hp
  go_enter Try.func33, Try.ntmps33
  go_wp2_with (go_at_call 12; refine HI.out.mono ?_; rintro e w2 ⟨rfl, k2_⟩; have K2 := Lib.hid k2_; clear k2_)
  go_ret
  exact ⟨by rw [← fin.out]; try rfl, K2.out⟩
end Go.Proofs.Ytdkpdomggbiolaa

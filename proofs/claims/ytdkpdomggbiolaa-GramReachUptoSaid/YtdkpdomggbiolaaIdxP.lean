/- slices.IndexFunc, slices.ContainsFunc over patterns, whatever the closure. -/
import Derived.Test.YtdkpdomggbiolaaRef4c
import Derived.Test.YtdkpdomggbiolaaRef4e
namespace Go.Proofs.Ytdkpdomggbiolaa
set_option linter.all false
open Go.RowKit

def PredP (S : Nat → Prop) (g : Nat) (lb : Array Value) (l : List PatT) (p : PatT → Bool) (w : World) : Prop :=
  ∀ (W : World) (v : Value) (x : PatT), x ∈ l → Kept Nix w W → PatV W S v x → Calls Try.prog g (#[v] ++ lb) W (BoolQ (p x) W)
def idxGoP (p : PatT → Bool) : Nat → List PatT → Int
  | _, [] => -1
  | i, r :: q => if p r = true then (i : Int) else idxGoP p (i + 1) q
theorem idxGoP_drop (p : PatT → Bool) (l : List PatT) (j : Nat) (h : j < l.length) : idxGoP p j (l.drop j) = if p l[j] = true then (j : Int) else idxGoP p (j + 1) (l.drop (j + 1)) := by
  rw [List.drop_eq_getElem_cons h, idxGoP]
theorem idxGoP_any (p : PatT → Bool) : ∀ (l : List PatT) (i : Nat), decide (0 ≤ idxGoP p i l) = l.any p
  | [], i => by rw [idxGoP]; rfl
  | r :: q, i => by
    rw [idxGoP, List.any_cons]
    cases h : p r with
    | true => rw [if_pos rfl]; simp
    | false => rw [if_neg (by decide), idxGoP_any p q (i + 1)]; simp

set_option maxRecDepth 100000 in
set_option maxHeartbeats 2000000 in
theorem idxP_any (g : Nat) (lb : Array Value) (p : PatT → Bool) (eg : ∀ args w, (callFunc g args).run Try.prog w = .ok (.enter g args) w) (S : Nat → Prop) (l : List PatT) (al : Option Addr) (cl : Nat) (w : World) (hl : PatsAt w S al l) (hS : Safe S Nix w.heap.size) (hlen : l.length < 1000000000) (hp : PredP S g lb l p w) :
    Calls Try.prog 63 #[.slice al l.length cl, .func (.func g) #[] lb] w (IntQ (idxGoP p 0 l) w) := by
  have HL := Lib.hid hl; have HS := Lib.hid hS; have HP := Lib.hid hp
  clear hl hS hp
  go_enter Try.func63, Try.ntmps63
  go_wp2_with fail
  go_loopw [8] (fun i wr => ∃ j : Nat, j ≤ l.length ∧ i = .int .i64 j ∧ Hid (idxGoP p 0 l = idxGoP p j (l.drop j)) ∧ Kept Nix w wr) (fun i _ => l.length - (intOf i).toNat)
  case atStart => exact ⟨0, Nat.zero_le _, rfl, by unfold Hid; rw [List.drop_zero], Kept.refl _ _⟩
  case round =>
    obtain ⟨j, hj, rfl, hno, hk⟩ := hrel
    have KW := Lib.hid hk
    by_cases hlt : j < l.length
    · have hps := HL.out.kept hk HS.out
      obtain ⟨b, o, rfl⟩ := PatsAt_head hps (by omega)
      obtain ⟨-, hz, q0, q1, q2, q3, ka, cap, q4, hks⟩ := (PatsAt_get l b o j hlt hps).open
      have hd := idxGoP_drop p l j hlt
      have hcall := Lib.hid (HP.out wr _ l[j] (List.getElem_mem hlt) KW.out ⟨ka, cap, rfl, hz, hks⟩)
      generalize l[j] = r at *
      clear hps hk hks hz
      cases hpr : p r with
      | true =>
        rw [if_pos hpr] at hd
        have fin := Lib.hid (hno.out.trans hd)
        rw [hpr] at hcall
        clear hd hpr hno
        go_wp2_with fail
        refine hcall.out.mono ?_
        rintro e w2 ⟨rfl, k2_⟩
        have K2 := Lib.hid (KW.out.trans k2_)
        clear k2_
        go_wp2_with fail
        go_ret
        exact ⟨by rw [fin.out]; try rfl, K2.out⟩
      | false =>
        rw [if_neg (by rw [hpr]; decide)] at hd
        have step := Lib.hid (hno.out.trans hd)
        rw [hpr] at hcall
        clear hd hpr hno
        go_wp2_with fail
        refine hcall.out.mono ?_
        rintro e w2 ⟨rfl, k2_⟩
        have K2 := Lib.hid (KW.out.trans k2_)
        clear k2_
        go_wp2_with fail
        go_roundw
        case rel => exact ⟨j + 1, by omega, by go_num, step, K2.out⟩
        case measure => simp [intOf]; omega
    · obtain rfl : j = l.length := by omega
      have fin : Hid (idxGoP p 0 l = -1) := by unfold Hid; rw [hno.out, List.drop_length, idxGoP]
      go_wp2_with fail
      go_ret
      exact ⟨by rw [fin.out]; try rfl, KW.out⟩
set_option maxRecDepth 100000 in
theorem hasP_any (g : Nat) (lb : Array Value) (p : PatT → Bool) (eg : ∀ args w, (callFunc g args).run Try.prog w = .ok (.enter g args) w) (S : Nat → Prop) (l : List PatT) (al : Option Addr) (cl : Nat) (w : World) (hl : PatsAt w S al l) (hS : Safe S Nix w.heap.size) (hlen : l.length < 1000000000) (hp : PredP S g lb l p w) :
    Calls Try.prog 43 #[.slice al l.length cl, .func (.func g) #[] lb] w (BoolQ (l.any p) w) := by
  have HI := Lib.hid (idxP_any g lb p eg S l al cl w hl hS hlen hp)
  have fin := Lib.hid (idxGoP_any p l 0)
  clear hl hS hp
  go_enter Try.func43, Try.ntmps43
  go_wp2_with (go_at_call 63; refine HI.out.mono ?_; rintro e w2 ⟨rfl, k2_⟩; have K2 := Lib.hid k2_; clear k2_)
  go_ret
  exact ⟨by rw [← fin.out]; try rfl, K2.out⟩
end Go.Proofs.Ytdkpdomggbiolaa

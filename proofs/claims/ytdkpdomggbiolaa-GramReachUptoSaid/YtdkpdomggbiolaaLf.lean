/- Of a right pattern: what may come to an end by itself has a kid; a call has none. -/
import Derived.Test.YtdkpdomggbiolaaNul
import Derived.Test.YtdkpdomggbiolaaLaw4
namespace Go.Proofs.Ytdkpdomggbiolaa
set_option linter.all false

theorem nodes_zero : ∀ (l : List PatT), firstF l = 0 → ∀ x ∈ l, nodeF x = 0
  | [], _, x, hx => by simp at hx
  | p :: r, h, x, hx => by
    rw [firstF] at h
    by_cases hp : nodeF p = 0
    · rcases List.mem_cons.1 hx with rfl | hx
      · exact hp
      · rw [if_pos hp] at h; exact nodes_zero r h x hx
    · rw [if_neg hp] at h; exact absurd h hp
theorem wrong_nodes {p : PatT} (h : wrongF p = 0) : (∀ x ∈ allT p, nodeF x = 0) ∧ sizeT p ≤ 4096 := by
  rw [wrongF_eq] at h
  by_cases hf : fits p
  · rw [if_pos hf] at h; exact ⟨nodes_zero _ h, hf.1⟩
  · rw [if_neg hf] at h; cases h
theorem node_kids {x : PatT} (h : nodeF x = 0) : leastK x.kind ≤ x.kids.length ∧ x.kids.length ≤ mostK x.kind := by
  unfold nodeF at h
  by_cases h1 : x.kids.length < leastK x.kind ∨ mostK x.kind < x.kids.length
  · rw [if_pos h1] at h
    exfalso
    repeat' split at h
    all_goals omega
  · omega
theorem kidsOk_of {p : PatT} (h : wrongF p = 0) : KidsOk p := by
  intro x hx hk
  have h1 := (node_kids ((wrong_nodes h).1 x hx)).1
  have h2 : leastK x.kind = 1 := by
    unfold leastK; rcases hk with hk | hk <;> rw [hk] <;> rfl
  omega
theorem leaf_of {p : PatT} (h : wrongF p = 0) : Leaf p := by
  intro x hx hk
  have h1 := (node_kids ((wrong_nodes h).1 x hx)).2
  have h2 : mostK x.kind = 0 := by unfold mostK; rw [hk]; rfl
  exact List.eq_nil_of_length_eq_zero (by omega)
/-- Two rising lists of the same members are one. -/
theorem same_rise {L M : List ByteArray} (hL : Rise (L.map bytesOf)) (hM : Rise (M.map bytesOf)) (h : ∀ n, n ∈ L ↔ n ∈ M) : L = M := by
  rw [← ofBytes_map L, ← ofBytes_map M, rise_unique hL hM fun x => ?_]
  rw [List.mem_map, List.mem_map]
  constructor
  · rintro ⟨y, hy, rfl⟩; exact ⟨y, (h y).1 hy, rfl⟩
  · rintro ⟨y, hy, rfl⟩; exact ⟨y, (h y).2 hy, rfl⟩
/-- What Reach tells is no longer than what is called. -/
theorem reach_len {l : List RuleT} {p : PatT} {L : List ByteArray} (hw : wrongF p = 0) (hr : rulesF l = 0) (hL : Rise (L.map bytesOf)) (h : ∀ n ∈ L, Rc l p n) : L.length ≤ 70000000 := by
  have h1 := nodup_len L _ (rise_nodup hL) fun x hx => rc_all (h x hx)
  have h2 := rules_right hr
  have h3 := allCalls_len (l := l) (p := p) (by have := (wrong_nodes hw).2; omega) (fun r hx => by have := (wrong_nodes (h2.2.1 r hx).2).2; omega)
  have := h2.1
  omega
end Go.Proofs.Ytdkpdomggbiolaa

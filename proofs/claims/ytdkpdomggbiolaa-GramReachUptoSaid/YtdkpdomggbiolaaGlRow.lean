/- GramReach's row, given what both Lefts tell. -/
import Derived.Test.YtdkpdomggbiolaaGl
import Derived.Test.YtdkpdomggbiolaaRRul
import Derived.Test.YtdkpdomggbiolaaLawRow
namespace Go.Proofs.Ytdkpdomggbiolaa
set_option linter.all false
open Go.RowKit Go.Deep Go.ChangeShapes Go.WideShapes Go.ChangeAt Go.ChangeMaps

set_option maxRecDepth 100000 in
theorem open_pat8 {H : Type} {enc : TypeId × Value → H} {W : World} {base : Nat} {v : Value} {d : DataW H} {ps : List MemPlace} (hval : Value.okWide Try.prog W .any base 25 v)
    (h : DataW.Trod enc Try.prog W 0 (fun _ => true) true 25 v d ps) (hb : Rows.uptoBulk d ≤ 1048576) : ∃ p, PatV W (· < W.heap.size) v p ∧ sizeT p ≤ Rows.uptoBulk d := by
  unfold Value.okWide at hval
  rw [Try.underlying25] at hval
  obtain ⟨cs, rfl, _, _⟩ := hval
  obtain ⟨fuel, hf⟩ := h
  obtain ⟨p, ka, cap, he, hz, hk, hs⟩ := read_pat 1048576 (Nat.le_refl _) fuel _ (d, ps) hf hb
  refine ⟨p, ⟨ka, cap, ?_, hz, hk⟩, hs⟩
  have he' : cs.toList = _ := he
  rw [← Array.toArray_toList (xs := cs), he']

def LeftAll (f : FuncId) : Prop := ∀ (l : List RuleT) (al : Option Addr) (cl : Nat) (w : World), RulesAt w (· < w.heap.size) al l → l.length ≤ 1048576 → l.length ≤ cl → Calls Try.prog f #[.slice al l.length cl] w (LeftQ l w)
set_option maxRecDepth 100000 in
theorem gram_contract (hG : LeftAll 7) (hR : LeftAll 8) (H : Type) (enc : TypeId × Value → H) (W : World) (base : Nat) (args : Array Value) (ds gs : List (DataW H)) (before : List MemPlace)
    (hval : ∀ (j : Nat) t v, Try.f3.params[j]? = some t → args[j]? = some v → Value.okWide Try.prog W .any base t v)
    (hW : DataW.Whole enc Try.prog Try.f3.params.toList Rows.gramReachSpec.vars false W args.toList ds gs before) (hk : Rows.uptoSmall H (ds ++ gs) = true) :
    Calls Try.prog 3 args W fun e W' => ∃ v, e = .returned v ∧ Rows.gramReachSpec.post enc Try.prog Try.f3 false true false false W args v W' := by
  have hb := of_decide_eq_true hk
  obtain ⟨p, q, hA0, hV, rfl, hfz, hnd⟩ := id hW
  have hA : DataW.TrodAll enc Try.prog W 0 (fun _ => true) true Try.f3.params.toList args.toList ds p := hA0
  rw [Try.params3] at hA hval
  obtain ⟨v0, vs0, d0, ds0, p0, q0, hargs, rfl, rfl, h0, r0⟩ := trodAll_cons hA
  obtain ⟨v1, vs1, d1, ds1, p1, q1, rfl, rfl, rfl, h1, r1⟩ := trodAll_cons r0
  obtain ⟨rfl, rfl, rfl⟩ := trodAll_nil r1
  obtain rfl : args = #[v0, v1] := by cases args; simp_all
  obtain ⟨rfl, rfl⟩ := trodVars_none hV
  have hb0 : Rows.uptoBulk d0 ≤ 1048576 ∧ Rows.uptoBulk d1 ≤ 1048576 := by
    simp only [List.append_nil, Rows.uptoBulkAll] at hb; omega
  obtain ⟨a0, n0, c0, rfl⟩ := okWide_slice Try.underlying22 (hval 0 22 v0 rfl rfl)
  obtain ⟨fuel, hf⟩ := h0
  obtain ⟨l, al, cl, hv, hl, hlen, hcl⟩ := read_rules (x := (d0, p0)) hf hb0.1
  obtain ⟨pt, hp, hsz⟩ := open_pat8 (hval 1 25 v1 rfl rfl) h1 hb0.2
  rw [hv]
  refine (gram_walk l pt al cl v1 W hl hlen hcl hp (by have := hb0.2; omega) (fun w' hk => hG l al cl w' (hl.to hk (Safe.lt (Nat.le_refl _)) (fun _ h => Nat.lt_of_lt_of_le h hk.size)) hlen hcl) (fun w' hk => hR l al cl w' (hl.to hk (Safe.lt (Nat.le_refl _)) (fun _ h => Nat.lt_of_lt_of_le h hk.size)) hlen hcl)).mono fun e W' ⟨he, hg⟩ => ?_
  rw [← hv] at *
  exact ⟨_, he, post_law hW rfl rfl (by rw [Try.params3]; intro t ht; simp at ht; rcases ht with rfl | rfl <;> exact ⟨by kernel_rfl, of_decide_eq_true (by kernel_rfl)⟩) rfl hg.below⟩

set_option maxRecDepth 100000 in
theorem gram_lifted (hG : LeftAll 7) (hR : LeftAll 8) (os : Os) (started : os.Started) (H : Type) (enc : TypeId × Value → H) (F : Stop.Interp) :
    ReturnsInHanded {} Try.checked os 3 .any ((Rows.OpenSpec.upto Rows.gramReachSpec).pre6 enc Try.prog Try.f3 Rows.gramReachUptoRow.domain false) (((Rows.OpenSpec.upto Rows.gramReachSpec).at F).post enc Try.prog Try.f3 false true false false) := by
  refine returnsInHanded_of_cond (C := Try.checked) (s := Rows.OpenSpec.upto Rows.gramReachSpec) (k := Rows.uptoSmall) rfl own_knob started (by kernel_rfl) Try.func3
    (OpenSpec.witness (enc := enc) (C := Try.checked) (s := Rows.OpenSpec.upto Rows.gramReachSpec) (k := Rows.uptoSmall) rfl false ⟨#[], #[.slice none 0 0, .agg #[.int .i64 0, .string ⟨#[]⟩, .int .i64 0, .string ⟨#[]⟩, .slice none 0 0]], []⟩ 8 (by kernel_rfl) (by kernel_rfl) (by kernel_rfl)
      (x := ([.nil, .agg [.lit (.int .i64 0), .lit (.string []), .lit (.int .i64 0), .lit (.string []), .nil]], [], [])) (by kernel_rfl) rfl (by kernel_rfl)) ?_
  intro W base args ds gs before hval hW _ hk _
  exact gram_contract hG hR H enc W base args ds gs before hval hW hk

theorem gram_of (hG : LeftAll 7) (hR : LeftAll 8) : Rows.GramReachUptoSaid :=
  OpenClaim.holds_of_cond 3 Try.f3 rfl rfl rfl rfl rfl rfl rfl ⟨rfl, rfl, rfl, rfl, rfl⟩ rfl rfl rfl rfl rfl (by kernel_rfl) Try.func3 (by kernel_rfl)
    (of_decide_eq_true (by kernel_rfl)) (by unfold Func.isWrapper; first | (rw [if_pos (by decide +kernel)]; kernel_rfl) | (rw [if_neg (by decide +kernel)]; exact ⟨rfl, rfl⟩))
    (fun os started H enc _ F => gram_lifted hG hR os started H enc F)
end Go.Proofs.Ytdkpdomggbiolaa

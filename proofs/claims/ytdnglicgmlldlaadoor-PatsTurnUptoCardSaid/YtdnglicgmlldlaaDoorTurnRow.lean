/- PatsTurn: what the program writes of a pattern it reads, and has what its kinds have; what it reads is right, and is read again from what it writes of it: for every pattern and every text that are together of bulk at most 1048576. -/
import Derived.Test.YtdnglicgmlldlaaDoorTurnW
import Derived.Test.YtdnglicgmlldlaaDoorRPat
import Derived.Test.YtdnglicgmlldlaaDoorLawRow
import Derived.Test.YtdnglicgmlldlaaDoorCards
import Derived.Test.YtdnglicgmlldlaaDoorTie
import Derived.Deep.DeepHandedRow
import Derived.Lib.LaidTab
import Derived.Stop.LaidErr
namespace Go.Proofs.YtdnglicgmlldlaaDoor
open Go.RowKit Go.Deep Go.ChangeShapes Go.WideShapes Go.ChangeAt Go.ChangeMaps

set_option maxRecDepth 100000 in
theorem open_pat {H : Type} {enc : TypeId × Value → H} {W : World} {base : Nat} {v : Value} {d : DataW H} {ps : List MemPlace} (hval : Value.okWide Tryd.prog W .any base 24 v)
    (h : DataW.Trod enc Tryd.prog W 0 (fun _ => true) true 24 v d ps) (hb : Rows.uptoBulk d ≤ 1048576) : ∃ p, PatV W (· < W.heap.size) v p ∧ sizeT p ≤ Rows.uptoBulk d := by
  unfold Value.okWide at hval
  rw [Tryd.underlying24] at hval
  obtain ⟨cs, rfl, _, _⟩ := hval
  obtain ⟨fuel, hf⟩ := h
  obtain ⟨p, ka, cap, he, hz, hk, hs⟩ := read_pat 1048576 (Nat.le_refl _) fuel _ (d, ps) hf hb
  refine ⟨p, ⟨ka, cap, ?_, hz, hk⟩, hs⟩
  have he' : cs.toList = _ := he
  rw [← Array.toArray_toList (xs := cs), he']

theorem gPow : Tryd.prog.globalNamed "internal/strconv.uint64pow10" = some 0 := by kernel_rfl
theorem gPowType : (Tryd.prog.globals[0]?).map (·.type) = some 103 := by kernel_rfl
theorem cellsPow : Tryd.prog.cellsOf 103 = 20 := by kernel_rfl
theorem cellsU64 : Tryd.prog.cellsOf 91 = 1 := by kernel_rfl
theorem pow_table {W : World} (h : laidMetH Tryd.prog Rows.patsTurnUptoRow.laid W) : Lib.TabIs Tryd.prog W "internal/strconv.uint64pow10" .u64 Lib.pow10Tab :=
  Lib.tabIs_of_head gPow gPowType Tryd.underlying103 Tryd.underlying91 cellsU64 cellsPow (laidMet.tail (laidMet.tail h))
set_option maxRecDepth 100000 in
theorem turn_contract (H : Type) (enc : TypeId × Value → H) (W : World) (base : Nat) (args : Array Value) (ds gs : List (DataW H)) (before : List MemPlace)
    (hval : ∀ (j : Nat) t v, Tryd.f4.params[j]? = some t → args[j]? = some v → Value.okWide Tryd.prog W .any base t v)
    (hW : DataW.Whole enc Tryd.prog Tryd.f4.params.toList Rows.patsTurnSpec.vars false W args.toList ds gs before) (hk : Rows.uptoSmall H (ds ++ gs) = true) (hL : laidMetH Tryd.prog Rows.patsTurnUptoRow.laid W) (hsh : W.ShapedOpen Tryd.prog) :
    Calls Tryd.prog 4 args W fun e W' => ∃ v, e = .returned v ∧ Rows.patsTurnSpec.post enc Tryd.prog Tryd.f4 false true false false W args v W' := by
  have hb := of_decide_eq_true hk
  obtain ⟨p, q, hA0, hV, rfl, hfz, hnd⟩ := id hW
  have hA : DataW.TrodAll enc Tryd.prog W 0 (fun _ => true) true Tryd.f4.params.toList args.toList ds p := hA0
  rw [Tryd.params4] at hA hval
  obtain ⟨v0, vs0, d0, ds0, p0, q0, hargs, rfl, rfl, h0, r0⟩ := trodAll_cons hA
  obtain ⟨v1, vs1, d1, ds1, p1, q1, rfl, rfl, rfl, h1, r1⟩ := trodAll_cons r0
  obtain ⟨rfl, rfl, rfl⟩ := trodAll_nil r1
  obtain rfl : args = #[v0, v1] := by cases args; simp_all
  obtain ⟨rfl, rfl⟩ := trodVars_none hV
  have hb0 : Rows.uptoBulk d0 ≤ 1048576 := by
    simp only [List.append_nil, Rows.uptoBulkAll] at hb; omega
  obtain ⟨s, rfl, rfl, rfl, hs⟩ := open_string Tryd.underlying9 (hval 1 9 v1 rfl rfl) h1
  obtain ⟨pt, hp, hsz⟩ := open_pat (hval 0 24 v0 rfl rfl) h0 hb0
  have hG : Glob W := ⟨Tryd.laysM155.s1_3 W hsh, pow_table hL⟩
  obtain ⟨m, hm⟩ := hG.1
  have l1 := cells_lt hm
  have l2 := cells_lt (hG.2.cell gPow 0 (by decide))
  refine (turn_walk pt v0 s W hp (by omega) hs hG ⟨l1, l2⟩).mono fun e W' ⟨he, hg⟩ => ?_
  exact ⟨_, he, post_law hW rfl rfl (by rw [Tryd.params4]; intro t ht; simp at ht; rcases ht with rfl | rfl <;> exact ⟨by kernel_rfl, of_decide_eq_true (by kernel_rfl)⟩) rfl hg.below⟩

/-- The cells of a table's datum. -/
def flat1 : DataW Unit → List Value
  | .lit (.int k z) => [.int k z]
  | _ => []
def flat2 : DataW Unit → List Value
  | .agg l => l.flatMap fun d => match d with | .agg m => m.flatMap flat1 | d => flat1 d
  | d => flat1 d
def putTab (d : DataW Unit) : Obj → Obj
  | .cells _ t frozen => .cells (flat2 d).toArray t frozen
  | o => o
/-- A world for the witness: the settled one, each listed table holding what its initialiser lays. -/
noncomputable def laidWorld (os : Os) : World :=
  { World.holding Tryd.prog os ⟨#[], #[], []⟩ with heap := (((((World.holding Tryd.prog os ⟨#[], #[], []⟩).heap.modify 4 (putTab Rows.laid_math_bits_deBruijn32tab)).modify 5 (putTab Rows.laid_math_bits_deBruijn64tab)).modify 0 (putTab Rows.laid_internal_strconv_uint64pow10)).modify 3 (putTab Rows.laid_unicode_utf8_acceptRanges)).modify 2 (putTab Rows.laid_unicode_utf8_first) }
def zeroArg : Value := .agg #[.int .i64 0, .string ⟨#[]⟩, .int .i64 0, .string ⟨#[]⟩, .slice none 0 0]
theorem laid_met (os : Os) : laidMet Tryd.prog Rows.patsTurnUptoRow.laid ((laidWorld os).forCall (fun _ _ => 0) ⟨#[], #[zeroArg, .string ⟨#[]⟩], []⟩).memory :=
  laidMet_of_run' 8 (by kernel_rfl) (by kernel_rfl)
theorem reads (os : Os) {H : Type} (enc : TypeId × Value → H) : ∃ places, DataW.whole enc Tryd.prog ((laidWorld os).forCall (fun _ _ => 0) ⟨#[], #[zeroArg, .string ⟨#[]⟩], []⟩).memory Tryd.f4.params.toList Rows.patsTurnSpec.vars false #[zeroArg, .string ⟨#[]⟩].toList 8 = some ([.agg [.lit (.int .i64 0), .lit (.string []), .lit (.int .i64 0), .lit (.string []), .nil], .lit (.string [])], [], places) :=
  ⟨[], by kernel_rfl⟩

set_option maxRecDepth 100000 in
theorem turn_lifted (os : Os) (started : os.Started) (H : Type) (enc : TypeId × Value → H) (F : Stop.Interp) :
    ReturnsInHanded {} Tryd.checked os 4 .any ((Rows.OpenSpec.upto Rows.patsTurnSpec).preRow enc Tryd.prog Tryd.f4 Rows.patsTurnUptoRow.domain false Rows.patsTurnUptoRow.laid) (((Rows.OpenSpec.upto Rows.patsTurnSpec).at F).post enc Tryd.prog Tryd.f4 false true false false) := by
  obtain ⟨places, hx⟩ := reads os enc
  refine returnsInHanded_of_row (C := Tryd.checked) (s := Rows.OpenSpec.upto Rows.patsTurnSpec) own_knob started (by kernel_rfl) Tryd.func4
    (witness_row_at (enc := enc) (C := Tryd.checked) false (laidWorld os) #[zeroArg, .string ⟨#[]⟩] rfl (by kernel_rfl) (by kernel_rfl) (by kernel_rfl)
      (OpenSpec.preRow_of_cond 8 hx (by kernel_rfl) (fun k hk => by cases hk; kernel_rfl) (by kernel_rfl) (laid_met os))) ?_
  intro W base args ds gs before hval hW _ hcond _ hL hsh _
  exact turn_contract H enc W base args ds gs before hval hW (hcond _ rfl) hL hsh

theorem turn_said : Rows.PatsTurnUptoSaid :=
  OpenClaim.holds_of_cond 4 Tryd.f4 rfl rfl rfl rfl rfl rfl rfl ⟨rfl, rfl, rfl, rfl, rfl⟩ rfl rfl rfl rfl rfl (by kernel_rfl) Tryd.func4 (by kernel_rfl)
    (of_decide_eq_true (by kernel_rfl)) (by unfold Func.isWrapper; first | (rw [if_pos (by decide +kernel)]; kernel_rfl) | (rw [if_neg (by decide +kernel)]; exact ⟨rfl, rfl⟩))
    (fun os started H enc _ F => by rw [OpenClaim.pre_eq_preRow]; exact turn_lifted os started H enc F)

/-- No parameter wants a stand-in; the program's own looks are off. -/
theorem turn_plain (f : FuncId) (fn : Func) (hf : Tryd.pinned.checked.prog.funcNamed "scanfail/scanfaillaw4.PatsTurn" = some f) (hfn : Tryd.pinned.checked.prog.funcs[f]? = some fn) :
    true = Tryd.pinned.checked.prog.looks [] ∧ ∀ (j : Nat) t, fn.params[j]? = some t → Tryd.pinned.checked.prog.wantsStandIn t = false := by
  obtain rfl : f = 4 := Option.some.inj ((show Tryd.prog.funcNamed "scanfail/scanfaillaw4.PatsTurn" = some 4 by kernel_rfl).symm.trans hf) |>.symm
  obtain rfl : fn = Tryd.f4 := (Option.some.inj (Tryd.func4.symm.trans hfn)).symm
  refine ⟨by kernel_rfl, fun j t ht => ?_⟩
  rw [Tryd.params4] at ht
  have hm : t = 24 ∨ t = 9 := by simpa using Array.mem_of_getElem? ht
  rcases hm with rfl | rfl
  · exact (show Tryd.prog.wantsStandIn 24 = false by kernel_rfl)
  · exact (show Tryd.prog.wantsStandIn 9 = false by kernel_rfl)

theorem turn_card : Rows.PatsTurnUptoCardSaid :=
  Claim7.holds_tied_plain_at .later [] _ _ _ _ turn_said (fun _ h => by cases h) (by kernel_rfl) (fun _ h => by cases h) patsTurnUpto_row_tie rfl ⟨rfl, rfl⟩ (by kernel_rfl) rfl turn_plain (by kernel_rfl)
#print axioms turn_card
end Go.Proofs.YtdnglicgmlldlaaDoor

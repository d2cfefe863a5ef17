/- PatsPrint: Print of the program answers what the document's Print answers, for every pattern of bulk at most 1048576: the same text and the same fault. -/
import Derived.Test.YtdnglicgmlldlaaDoorShow7
import Derived.Test.YtdnglicgmlldlaaDoorRPat
import Derived.Test.YtdnglicgmlldlaaDoorLawRow
import Derived.Test.YtdnglicgmlldlaaDoorCards
import Derived.Test.YtdnglicgmlldlaaDoorTie
import Derived.Deep.DeepHandedRow
import Derived.Lib.LaidTab
import Derived.Stop.LaidErr
namespace Go.Proofs.YtdnglicgmlldlaaDoor
open Go.RowKit Go.Deep Go.ChangeShapes Go.WideShapes Go.ChangeAt Go.ChangeMaps

set_option maxRecDepth 100000 in
theorem open_pat {H : Type} {enc : TypeId × Value → H} {W : World} {base : Nat} {v : Value} {d : DataW H} {ps : List MemPlace} (hval : Value.okWide Tryd.prog W .any base 24 v)
    (h : DataW.Trod enc Tryd.prog W 0 (fun _ => true) true 24 v d ps) (hb : Rows.uptoBulk d ≤ 1048576) : ∃ p, PatV W (· < W.heap.size) v p ∧ sizeT p ≤ Rows.uptoBulk d := by
  unfold Value.okWide at hval
  rw [Tryd.underlying24] at hval
  obtain ⟨cs, rfl, _, _⟩ := hval
  obtain ⟨fuel, hf⟩ := h
  obtain ⟨p, ka, cap, he, hz, hk, hs⟩ := read_pat 1048576 (Nat.le_refl _) fuel _ (d, ps) hf hb
  refine ⟨p, ⟨ka, cap, ?_, hz, hk⟩, hs⟩
  have he' : cs.toList = _ := he
  rw [← Array.toArray_toList (xs := cs), he']

theorem gPow : Tryd.prog.globalNamed "internal/strconv.uint64pow10" = some 0 := by kernel_rfl
theorem gPowType : (Tryd.prog.globals[0]?).map (·.type) = some 103 := by kernel_rfl
theorem cellsPow : Tryd.prog.cellsOf 103 = 20 := by kernel_rfl
theorem cellsU64 : Tryd.prog.cellsOf 91 = 1 := by kernel_rfl
theorem pow_table {W : World} (h : laidMetH Tryd.prog Rows.patsPrintUptoRow.laid W) : Lib.TabIs Tryd.prog W "internal/strconv.uint64pow10" .u64 Lib.pow10Tab :=
  Lib.tabIs_of_head gPow gPowType Tryd.underlying103 Tryd.underlying91 cellsU64 cellsPow (laidMet.tail (laidMet.tail h))
set_option maxRecDepth 100000 in
theorem print_contract (H : Type) (enc : TypeId × Value → H) (W : World) (base : Nat) (args : Array Value) (ds gs : List (DataW H)) (before : List MemPlace)
    (hval : ∀ (j : Nat) t v, Tryd.f3.params[j]? = some t → args[j]? = some v → Value.okWide Tryd.prog W .any base t v)
    (hW : DataW.Whole enc Tryd.prog Tryd.f3.params.toList Rows.patsPrintSpec.vars false W args.toList ds gs before) (hk : Rows.uptoSmall H (ds ++ gs) = true) (hL : laidMetH Tryd.prog Rows.patsPrintUptoRow.laid W) (hsh : W.ShapedOpen Tryd.prog) :
    Calls Tryd.prog 3 args W fun e W' => ∃ v, e = .returned v ∧ Rows.patsPrintSpec.post enc Tryd.prog Tryd.f3 false true false false W args v W' := by
  have hb := of_decide_eq_true hk
  obtain ⟨p, q, hA0, hV, rfl, hfz, hnd⟩ := id hW
  have hA : DataW.TrodAll enc Tryd.prog W 0 (fun _ => true) true Tryd.f3.params.toList args.toList ds p := hA0
  rw [Tryd.params3] at hA hval
  obtain ⟨v0, vs0, d0, ds0, p0, q0, hargs, rfl, rfl, h0, r0⟩ := trodAll_cons hA
  obtain ⟨rfl, rfl, rfl⟩ := trodAll_nil r0
  obtain rfl : args = #[v0] := by cases args; simp_all
  obtain ⟨rfl, rfl⟩ := trodVars_none hV
  have hb0 : Rows.uptoBulk d0 ≤ 1048576 := by
    simp only [List.append_nil, Rows.uptoBulkAll] at hb; omega
  obtain ⟨pt, hp, hsz⟩ := open_pat (hval 0 24 v0 rfl rfl) h0 hb0
  have hG : Glob W := ⟨Tryd.laysM155.s1_3 W hsh, pow_table hL⟩
  obtain ⟨m, hm⟩ := hG.1
  have h1 := cells_lt hm
  have h2 := cells_lt (hG.2.cell gPow 0 (by decide))
  refine (printlaw_walk pt v0 W hp (by omega) hG ⟨h1, h2⟩).mono fun e W' ⟨he, hg⟩ => ?_
  exact ⟨_, he, post_law hW rfl rfl (by rw [Tryd.params3]; intro t ht; simp at ht; subst ht; exact ⟨by kernel_rfl, of_decide_eq_true (by kernel_rfl)⟩) rfl hg.below⟩

/-- The cells of a table's datum. -/
def flat1 : DataW Unit → List Value
  | .lit (.int k z) => [.int k z]
  | _ => []
def flat2 : DataW Unit → List Value
  | .agg l => l.flatMap fun d => match d with | .agg m => m.flatMap flat1 | d => flat1 d
  | d => flat1 d
def putTab (d : DataW Unit) : Obj → Obj
  | .cells _ t frozen => .cells (flat2 d).toArray t frozen
  | o => o
/-- A world for the witness: the settled one, each listed table holding what its initialiser lays. -/
noncomputable def laidWorld (os : Os) : World :=
  { World.holding Tryd.prog os ⟨#[], #[], []⟩ with heap := (((((World.holding Tryd.prog os ⟨#[], #[], []⟩).heap.modify 4 (putTab Rows.laid_math_bits_deBruijn32tab)).modify 5 (putTab Rows.laid_math_bits_deBruijn64tab)).modify 0 (putTab Rows.laid_internal_strconv_uint64pow10)).modify 3 (putTab Rows.laid_unicode_utf8_acceptRanges)).modify 2 (putTab Rows.laid_unicode_utf8_first) }
def zeroArg : Value := .agg #[.int .i64 0, .string ⟨#[]⟩, .int .i64 0, .string ⟨#[]⟩, .slice none 0 0]
theorem laid_met (os : Os) : laidMet Tryd.prog Rows.patsPrintUptoRow.laid ((laidWorld os).forCall (fun _ _ => 0) ⟨#[], #[zeroArg], []⟩).memory :=
  laidMet_of_run' 8 (by kernel_rfl) (by kernel_rfl)
theorem reads (os : Os) {H : Type} (enc : TypeId × Value → H) : ∃ places, DataW.whole enc Tryd.prog ((laidWorld os).forCall (fun _ _ => 0) ⟨#[], #[zeroArg], []⟩).memory Tryd.f3.params.toList Rows.patsPrintSpec.vars false #[zeroArg].toList 8 = some ([.agg [.lit (.int .i64 0), .lit (.string []), .lit (.int .i64 0), .lit (.string []), .nil]], [], places) :=
  ⟨[], by kernel_rfl⟩

set_option maxRecDepth 100000 in
theorem print_lifted (os : Os) (started : os.Started) (H : Type) (enc : TypeId × Value → H) (F : Stop.Interp) :
    ReturnsInHanded {} Tryd.checked os 3 .any ((Rows.OpenSpec.upto Rows.patsPrintSpec).preRow enc Tryd.prog Tryd.f3 Rows.patsPrintUptoRow.domain false Rows.patsPrintUptoRow.laid) (((Rows.OpenSpec.upto Rows.patsPrintSpec).at F).post enc Tryd.prog Tryd.f3 false true false false) := by
  obtain ⟨places, hx⟩ := reads os enc
  refine returnsInHanded_of_row (C := Tryd.checked) (s := Rows.OpenSpec.upto Rows.patsPrintSpec) own_knob started (by kernel_rfl) Tryd.func3
    (witness_row_at (enc := enc) (C := Tryd.checked) false (laidWorld os) #[zeroArg] rfl (by kernel_rfl) (by kernel_rfl) (by kernel_rfl)
      (OpenSpec.preRow_of_cond 8 hx (by kernel_rfl) (fun k hk => by cases hk; kernel_rfl) (by kernel_rfl) (laid_met os))) ?_
  intro W base args ds gs before hval hW _ hcond _ hL hsh _
  exact print_contract H enc W base args ds gs before hval hW (hcond _ rfl) hL hsh

theorem print_said : Rows.PatsPrintUptoSaid :=
  OpenClaim.holds_of_cond 3 Tryd.f3 rfl rfl rfl rfl rfl rfl rfl ⟨rfl, rfl, rfl, rfl, rfl⟩ rfl rfl rfl rfl rfl (by kernel_rfl) Tryd.func3 (by kernel_rfl)
    (of_decide_eq_true (by kernel_rfl)) (by unfold Func.isWrapper; first | (rw [if_pos (by decide +kernel)]; kernel_rfl) | (rw [if_neg (by decide +kernel)]; exact ⟨rfl, rfl⟩))
    (fun os started H enc _ F => by rw [OpenClaim.pre_eq_preRow]; exact print_lifted os started H enc F)

/-- No parameter wants a stand-in; the program's own looks are off. -/
theorem print_plain (f : FuncId) (fn : Func) (hf : Tryd.pinned.checked.prog.funcNamed "scanfail/scanfaillaw4.PatsPrint" = some f) (hfn : Tryd.pinned.checked.prog.funcs[f]? = some fn) :
    true = Tryd.pinned.checked.prog.looks [] ∧ ∀ (j : Nat) t, fn.params[j]? = some t → Tryd.pinned.checked.prog.wantsStandIn t = false := by
  obtain rfl : f = 3 := Option.some.inj ((show Tryd.prog.funcNamed "scanfail/scanfaillaw4.PatsPrint" = some 3 by kernel_rfl).symm.trans hf) |>.symm
  obtain rfl : fn = Tryd.f3 := (Option.some.inj (Tryd.func3.symm.trans hfn)).symm
  refine ⟨by kernel_rfl, fun j t ht => ?_⟩
  rw [Tryd.params3] at ht
  obtain rfl : t = 24 := by simpa using Array.mem_of_getElem? ht
  exact (show Tryd.prog.wantsStandIn 24 = false by kernel_rfl)

theorem print_card : Rows.PatsPrintUptoCardSaid :=
  Claim7.holds_tied_plain_at .later [] _ _ _ _ print_said (fun _ h => by cases h) (by kernel_rfl) (fun _ h => by cases h) patsPrintUpto_row_tie rfl ⟨rfl, rfl⟩ (by kernel_rfl) rfl print_plain (by kernel_rfl)
#print axioms print_card
end Go.Proofs.YtdnglicgmlldlaaDoor

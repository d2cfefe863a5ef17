/- SyntaxPrint: Expr, Wrong, Print and Show of the program answer what the document's answer, for every list of statements and every expression that are together of bulk at most 1048576. -/
import Derived.Test.YtcfcdobgpldoiaaGreatDoorSp
import Derived.Test.YtcfcdobgpldoiaaGreatDoorRx
import Derived.Test.YtcfcdobgpldoiaaGreatDoorLawRow
import Derived.Test.YtcfcdobgpldoiaaGreatDoorCards
import Derived.Test.YtcfcdobgpldoiaaGreatDoorTie
import Derived.Deep.DeepHandedRow
import Derived.Lib.LaidTab
import Derived.Stop.LaidErr
namespace Go.Proofs.YtcfcdobgpldoiaaGreatDoor
set_option linter.all false
open Go.RowKit Go.Deep Go.ChangeShapes Go.WideShapes Go.ChangeAt Go.ChangeMaps

set_option maxRecDepth 100000 in
theorem open_exprX {H : Type} {enc : TypeId × Value → H} {W : World} {base : Nat} {v : Value} {d : DataW H} {ps : List MemPlace} (hval : Value.okWide Tryz.prog W .any base 25 v)
    (h : DataW.Trod enc Tryz.prog W 0 (fun _ => true) true 25 v d ps) (hb : Rows.uptoBulk d ≤ 1048576) : ∃ p ka cap, v = .agg #[.int .i64 (PatT.kind p), .string p.text, .int .i64 p.n, .string p.name, .slice ka p.kids.length cap] ∧ PatV W (· < W.heap.size) v p ∧ sizeT p ≤ 1048576 := by
  unfold Value.okWide at hval
  rw [Tryz.underlying25] at hval
  obtain ⟨cs, rfl, _, _⟩ := hval
  obtain ⟨fuel, hf⟩ := h
  obtain ⟨p, ka, cap, he, hz, hk, hs, _⟩ := read_exprX 1048576 (Nat.le_refl _) fuel _ (d, ps) hf hb
  have he' : cs.toList = _ := he
  have ev : Value.agg cs = .agg #[.int .i64 (PatT.kind p), .string p.text, .int .i64 p.n, .string p.name, .slice ka p.kids.length cap] := by rw [← Array.toArray_toList (xs := cs), he']
  exact ⟨p, ka, cap, ev, ⟨ka, cap, ev, hz, hk⟩, Nat.le_trans hs hb⟩

theorem gPow : Tryz.prog.globalNamed "internal/strconv.uint64pow10" = some 1 := by kernel_rfl
theorem gPowType : (Tryz.prog.globals[1]?).map (·.type) = some 139 := by kernel_rfl
theorem cellsPow : Tryz.prog.cellsOf 139 = 20 := by kernel_rfl
theorem cellsU64 : Tryz.prog.cellsOf 118 = 1 := by kernel_rfl
theorem pow_table {W : World} (h : laidMetH Tryz.prog Rows.syntaxPrintUptoRow.laid W) : Lib.TabIs Tryz.prog W "internal/strconv.uint64pow10" .u64 Lib.pow10Tab :=
  Lib.tabIs_of_head gPow gPowType Tryz.underlying139 Tryz.underlying118 cellsU64 cellsPow (laidMet.tail (laidMet.tail h))
set_option maxRecDepth 100000 in
theorem print_contract (H : Type) (enc : TypeId × Value → H) (W : World) (base : Nat) (args : Array Value) (ds gs : List (DataW H)) (before : List MemPlace)
    (hval : ∀ (j : Nat) t v, Tryz.f3.params[j]? = some t → args[j]? = some v → Value.okWide Tryz.prog W .any base t v)
    (hW : DataW.Whole enc Tryz.prog Tryz.f3.params.toList Rows.syntaxPrintSpec.vars false W args.toList ds gs before) (hk : Rows.uptoSmall H (ds ++ gs) = true) (hL : laidMetH Tryz.prog Rows.syntaxPrintUptoRow.laid W) (hsh : W.ShapedOpen Tryz.prog) :
    Calls Tryz.prog 3 args W fun e W' => ∃ v, e = .returned v ∧ Rows.syntaxPrintSpec.post enc Tryz.prog Tryz.f3 false true false false W args v W' := by
  have hb := of_decide_eq_true hk
  obtain ⟨p, q, hA0, hV, rfl, hfz, hnd⟩ := id hW
  have hA : DataW.TrodAll enc Tryz.prog W 0 (fun _ => true) true Tryz.f3.params.toList args.toList ds p := hA0
  rw [Tryz.params3] at hA hval
  obtain ⟨v0, vs0, d0, ds0, p0, q0, hargs, rfl, rfl, h0, r0⟩ := trodAll_cons hA
  obtain ⟨v1, vs1, d1, ds1, p1, q1, rfl, rfl, rfl, h1, r1⟩ := trodAll_cons r0
  obtain ⟨rfl, rfl, rfl⟩ := trodAll_nil r1
  obtain rfl : args = #[v0, v1] := by cases args; simp_all
  obtain ⟨rfl, rfl⟩ := trodVars_none hV
  have hb0 : Rows.uptoBulk d0 ≤ 1048576 := by
    simp only [List.append_nil, Rows.uptoBulkAll] at hb; omega
  have hb1 : Rows.uptoBulk d1 ≤ 1048576 := by
    simp only [List.append_nil, Rows.uptoBulkAll] at hb; omega
  obtain ⟨x, ka, cap, hv1, hx, hsz⟩ := open_exprX (hval 1 25 v1 rfl rfl) h1 hb1
  obtain ⟨a0, n0, c0, rfl⟩ := okWide_slice Tryz.underlying22 (hval 0 22 v0 rfl rfl)
  obtain ⟨fuel, hf⟩ := h0
  obtain ⟨l, al, cl, hv, hl, hlen⟩ := read_stsX (x := (d0, p0)) hf hb0
  have hG : Glob W := ⟨Tryz.laysM155.s1_3 W hsh, pow_table hL⟩
  obtain ⟨m, hm⟩ := hG.1
  have g1 := cells_lt hm
  have g2 := cells_lt (hG.2.cell gPow 0 (by decide))
  have hgo := sp_walk l al cl x ka cap W hl hlen (by rw [← hv1]; exact hx) hsz ⟨hG, g1, g2⟩
  rw [← hv, ← hv1] at hgo
  refine hgo.mono fun e W' ⟨he, hg⟩ => ?_
  exact ⟨_, he, post_law hW rfl rfl (by rw [Tryz.params3]; intro t ht; simp at ht; rcases ht with rfl | rfl <;> exact ⟨by kernel_rfl, of_decide_eq_true (by kernel_rfl)⟩) rfl hg.below⟩

/-- The cells of a table's datum. -/
def flat1 : DataW Unit → List Value
  | .lit (.int k z) => [.int k z]
  | _ => []
def flat2 : DataW Unit → List Value
  | .agg l => l.flatMap fun d => match d with | .agg m => m.flatMap flat1 | d => flat1 d
  | d => flat1 d
def putTab (d : DataW Unit) : Obj → Obj
  | .cells _ t frozen => .cells (flat2 d).toArray t frozen
  | o => o
/-- A world for the witness: the settled one, each listed table holding what its initialiser lays. -/
noncomputable def laidWorld (os : Os) : World :=
  { World.holding Tryz.prog os ⟨#[], #[], []⟩ with heap := (((((World.holding Tryz.prog os ⟨#[], #[], []⟩).heap.modify 4 (putTab Rows.laid_math_bits_deBruijn32tab)).modify 5 (putTab Rows.laid_math_bits_deBruijn64tab)).modify 1 (putTab Rows.laid_internal_strconv_uint64pow10)).modify 3 (putTab Rows.laid_unicode_utf8_acceptRanges)).modify 2 (putTab Rows.laid_unicode_utf8_first) }
def zeroArg : Value := .agg #[.int .i64 0, .string ⟨#[]⟩, .int .i64 0, .string ⟨#[]⟩, .slice none 0 0]
def zeroArgs : Array Value := #[.slice none 0 0, zeroArg]
theorem laid_met (os : Os) : laidMet Tryz.prog Rows.syntaxPrintUptoRow.laid ((laidWorld os).forCall (fun _ _ => 0) ⟨#[], zeroArgs, []⟩).memory :=
  laidMet_of_run' 8 (by kernel_rfl) (by kernel_rfl)
theorem reads (os : Os) {H : Type} (enc : TypeId × Value → H) : ∃ places, DataW.whole enc Tryz.prog ((laidWorld os).forCall (fun _ _ => 0) ⟨#[], zeroArgs, []⟩).memory Tryz.f3.params.toList Rows.syntaxPrintSpec.vars false zeroArgs.toList 8 = some ([.nil, .agg [.lit (.int .i64 0), .lit (.string []), .lit (.int .i64 0), .lit (.string []), .nil]], [], places) :=
  ⟨[], by kernel_rfl⟩

set_option maxRecDepth 100000 in
theorem print_lifted (os : Os) (started : os.Started) (H : Type) (enc : TypeId × Value → H) (F : Stop.Interp) :
    ReturnsInHanded {} Tryz.checked os 3 .any ((Rows.OpenSpec.upto Rows.syntaxPrintSpec).preRow enc Tryz.prog Tryz.f3 Rows.syntaxPrintUptoRow.domain false Rows.syntaxPrintUptoRow.laid) (((Rows.OpenSpec.upto Rows.syntaxPrintSpec).at F).post enc Tryz.prog Tryz.f3 false true false false) := by
  obtain ⟨places, hx⟩ := reads os enc
  refine returnsInHanded_of_row (C := Tryz.checked) (s := Rows.OpenSpec.upto Rows.syntaxPrintSpec) own_knob started (by kernel_rfl) Tryz.func3
    (witness_row_at (enc := enc) (C := Tryz.checked) false (laidWorld os) zeroArgs rfl (by kernel_rfl) (by kernel_rfl) (by kernel_rfl)
      (OpenSpec.preRow_of_cond 8 hx (by kernel_rfl) (fun k hk => by cases hk; kernel_rfl) (by kernel_rfl) (laid_met os))) ?_
  intro W base args ds gs before hval hW _ hcond _ hL hsh _
  exact print_contract H enc W base args ds gs before hval hW (hcond _ rfl) hL hsh

theorem print_said : Rows.SyntaxPrintUptoSaid :=
  OpenClaim.holds_of_cond 3 Tryz.f3 rfl rfl rfl rfl rfl rfl rfl ⟨rfl, rfl, rfl, rfl, rfl⟩ rfl rfl rfl rfl rfl (by kernel_rfl) Tryz.func3 (by kernel_rfl)
    (of_decide_eq_true (by kernel_rfl)) (by unfold Func.isWrapper; first | (rw [if_pos (by decide +kernel)]; kernel_rfl) | (rw [if_neg (by decide +kernel)]; exact ⟨rfl, rfl⟩))
    (fun os started H enc _ F => by rw [OpenClaim.pre_eq_preRow]; exact print_lifted os started H enc F)

/-- No parameter wants a stand-in; the program's own looks are off. -/
theorem print_plain (f : FuncId) (fn : Func) (hf : Tryz.pinned.checked.prog.funcNamed "scanfail/scanfaillaw10.SyntaxPrint" = some f) (hfn : Tryz.pinned.checked.prog.funcs[f]? = some fn) :
    false = Tryz.pinned.checked.prog.looks [] ∧ ∀ (j : Nat) t, fn.params[j]? = some t → Tryz.pinned.checked.prog.wantsStandIn t = false := by
  obtain rfl : f = 3 := Option.some.inj ((show Tryz.prog.funcNamed "scanfail/scanfaillaw10.SyntaxPrint" = some 3 by kernel_rfl).symm.trans hf) |>.symm
  obtain rfl : fn = Tryz.f3 := (Option.some.inj (Tryz.func3.symm.trans hfn)).symm
  refine ⟨by kernel_rfl, fun j t ht => ?_⟩
  rw [Tryz.params3] at ht
  have hm := Array.mem_of_getElem? ht
  simp at hm
  rcases hm with rfl | rfl
  · exact (show Tryz.prog.wantsStandIn 22 = false by kernel_rfl)
  · exact (show Tryz.prog.wantsStandIn 25 = false by kernel_rfl)

theorem print_card : Rows.SyntaxPrintUptoCardSaid :=
  Claim7.holds_tied_plain_at .later [] _ _ _ _ print_said (fun _ h => by cases h) (by kernel_rfl) (fun _ h => by cases h) syntaxPrintUpto_row_tie rfl ⟨rfl, rfl⟩ (by kernel_rfl) rfl print_plain (by kernel_rfl)
#print axioms print_card
end Go.Proofs.YtcfcdobgpldoiaaGreatDoor

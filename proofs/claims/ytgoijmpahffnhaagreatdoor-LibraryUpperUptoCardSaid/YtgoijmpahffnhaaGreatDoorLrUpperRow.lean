/- LibraryUpper: for every list of texts that is of bulk at most 1048576. -/
import Derived.Test.YtgoijmpahffnhaaGreatDoorLq17
import Derived.Test.YtgoijmpahffnhaaGreatDoorLq9
import Derived.Test.YtgoijmpahffnhaaGreatDoorLrUpperJ
import Derived.Test.YtgoijmpahffnhaaGreatDoorLawRow
import Derived.Test.YtgoijmpahffnhaaGreatDoorCards
import Derived.Test.YtgoijmpahffnhaaGreatDoorTie
import Derived.Deep.DeepHandedRow
import Derived.Lib.LaidTab
import Derived.Stop.LaidErr
namespace Go.Proofs.YtgoijmpahffnhaaGreatDoor
set_option linter.all false
open Go.RowKit Go.Deep Go.ChangeShapes Go.WideShapes Go.ChangeAt Go.ChangeMaps
set_option maxRecDepth 100000
theorem lU:Tryz.prog.globalNamed "strconv.ErrRange" = some 5:=by kernel_rfl
theorem jS:(Tryz.prog.globals[5]?).map (·.type)=some 195:=by kernel_rfl
theorem lX:Tryz.prog.cellsOf 9=1:=by kernel_rfl
theorem oq:Tryz.prog.cellsOf 374=1:=by kernel_rfl
theorem jD : "*" ++ "errors.errorString" = "*errors.errorString" :=by decide
theorem uq (u:TypeId) (h:Tryz.prog.typeName? 3 u=some "*errors.errorString"):u=372 :=
 typeName_ptr_named (nm :="errors.errorString") (by rw [jD];kernel_rfl) (by kernel_rfl) (by decide) u (by rw [jD];exact h)
theorem mJ {W:World} (h:laidMetH Tryz.prog Rows.libraryUpperUptoRow.laid W):eU W:=by
 obtain ⟨a,s,hv,_,_,_⟩:=laid_sentinel (laidMet.tail (laidMet.tail (laidMet.tail (laidMet.tail h)))) lU jS Tryz.underlying195 uq Tryz.underlying372 Tryz.underlying374 rfl rfl Tryz.underlying9 oq lX
 exact ⟨_,by simpa using World.var?_cell lU hv 0,.inr ⟨_,_,rfl⟩⟩
theorem JV (H:Type) (enc:TypeId×Value→H) (W:World) (base:Nat) (args:Array Value) (ds gs:List (DataW H)) (before:List MemPlace)
  (hval:∀(j:Nat) t v,Tryz.f8.params[j]?=some t→args[j]?=some v→Value.okWide Tryz.prog W .any base t v)
  (hW:DataW.Whole enc Tryz.prog Tryz.f8.params.toList Rows.libraryUpperSpec.vars false W args.toList ds gs before) (hk:Rows.uptoSmall H (ds++gs)=true) (hL:laidMetH Tryz.prog Rows.libraryUpperUptoRow.laid W) (hsh:W.ShapedOpen Tryz.prog) :
  Calls Tryz.prog 8 args W fun e W'=>∃v,e=.returned v∧Rows.libraryUpperSpec.post enc Tryz.prog Tryz.f8 false true false false W args v W':=by
 have hb:=of_decide_eq_true hk
 obtain ⟨p,q,hA0,hV,rfl,hfz,hnd⟩:=id hW
 have hA:DataW.TrodAll enc Tryz.prog W 0 (fun _=>true) true Tryz.f8.params.toList args.toList ds p:=hA0
 rw [Tryz.params8] at hA hval
 obtain ⟨v0,vs0,d0,ds0,p0,q0,hargs,rfl,rfl,h0,r0⟩:=trodAll_cons hA
 obtain ⟨rfl,rfl,rfl⟩:=trodAll_nil r0
 obtain rfl:args = #[v0]:=by cases args;simp_all
 obtain ⟨rfl,rfl⟩:=trodVars_none hV
 have hb0:Rows.uptoBulk d0≤1048576:=by
  simp only [List.append_nil,Rows.uptoBulkAll] at hb;omega
 obtain ⟨a0,n0,c0,rfl⟩:=okWide_slice Tryz.underlying22 (hval 0 22 v0 rfl rfl)
 obtain ⟨fuel,hf⟩:=h0
 obtain ⟨l,al,cl,hv,hl,hc,hll,hsz⟩:=yj (x:=(d0,p0)) hf hb0
 have hgo:=ae1 l al cl W (Tryz.laysM155.s1_3 W hsh) (mJ hL) hl hc hll (fun y hy=>Nat.le_of_lt (hsz y hy))
 rw [←hv] at hgo
 refine hgo.mono fun e W' ⟨he,hk⟩=>?_
 exact ⟨_,he,x8 hW rfl rfl (by rw [Tryz.params8];intro t ht;simp at ht;rcases ht with rfl;exact ⟨by kernel_rfl,of_decide_eq_true (by kernel_rfl)⟩) rfl hk.below⟩
def jT:DataW Unit→List Value
 | .lit (.int k z)=>[.int k z]
 | _=>[]
def xI:DataW Unit→List Value
 | .agg l=>l.flatMap fun d=>match d with | .agg m=>m.flatMap jT|d=>jT d
 | d=>jT d
def eX (d:DataW Unit):Obj→Obj
 | .cells _ t frozen=>.cells (xI d).toArray t frozen
 | o=>o
noncomputable def low:Nat:=(World.holding Tryz.prog default ⟨#[],#[],[]⟩).heap.size
def lY (a:Nat):Obj→Obj
 | .cells _ t frozen=>.cells #[.iface 372 (.pointer (some ⟨a,0,none⟩))] t frozen
 | o=>o
def rangeS:aj:=⟨#[118,97,108,117,101,32,111,117,116,32,111,102,32,114,97,110,103,101]⟩
def qE:aj:=⟨#[105,110,118,97,108,105,100,32,115,121,110,116,97,120]⟩
noncomputable def laidWorld (os:Os):World :=
 let w0:=World.holding Tryz.prog os ⟨#[.cells #[.string rangeS] 374,.cells #[.string qE] 374],#[],[]⟩
 {w0 with heap:=((((((w0.heap.modify 6 (eX Rows.laid_math_bits_deBruijn32tab)).modify 7 (eX Rows.laid_math_bits_deBruijn64tab)).modify 3 (eX Rows.laid_internal_strconv_uint64pow10)).modify 2 (eX Rows.laid_unicode_utf8_acceptRanges)).modify 1 (eX Rows.laid_unicode_utf8_first)).modify 5 (lY low)).modify 4 (lY (low+1))}
def dW:Array Value:=#[.slice none 0 0]
theorem laid_met (os:Os):laidMet Tryz.prog Rows.libraryUpperUptoRow.laid ((laidWorld os).forCall (fun _ _=>0) ⟨#[],dW,[]⟩).memory :=
 laidMet_of_run' 8 (by kernel_rfl) (by kernel_rfl)
theorem reads (os:Os) {H:Type} (enc:TypeId×Value→H):∃places,DataW.whole enc Tryz.prog ((laidWorld os).forCall (fun _ _=>0) ⟨#[],dW,[]⟩).memory Tryz.f8.params.toList Rows.libraryUpperSpec.vars false dW.toList 8=some ([.nil],[],places) :=
 ⟨[],by kernel_rfl⟩
theorem OZ (os:Os) (started:os.Started) (H:Type) (enc:TypeId×Value→H) (F:Stop.Interp) :
  ReturnsInHanded {} Tryz.checked os 8 .any ((Rows.OpenSpec.upto Rows.libraryUpperSpec).preRow enc Tryz.prog Tryz.f8 Rows.libraryUpperUptoRow.domain false Rows.libraryUpperUptoRow.laid) (((Rows.OpenSpec.upto Rows.libraryUpperSpec).at F).post enc Tryz.prog Tryz.f8 false true false false):=by
 obtain ⟨places,hx⟩:=reads os enc
 refine returnsInHanded_of_row (C:=Tryz.checked) (s:=Rows.OpenSpec.upto Rows.libraryUpperSpec) xZ started (by kernel_rfl) Tryz.func8
  (witness_row_at (enc:=enc) (C:=Tryz.checked) false (laidWorld os) dW rfl (by kernel_rfl) (by kernel_rfl) (by kernel_rfl)
   (OpenSpec.preRow_of_cond 8 hx (by kernel_rfl) (fun k hk=>by cases hk;kernel_rfl) (by kernel_rfl) (laid_met os))) ?_
 intro W base args ds gs before hval hW _ hcond _ hL hsh _
 exact JV H enc W base args ds gs before hval hW (hcond _ rfl) hL hsh
theorem WR:Rows.LibraryUpperUptoSaid :=
 OpenClaim.holds_of_cond 8 Tryz.f8 rfl rfl rfl rfl rfl rfl rfl ⟨rfl,rfl,rfl,rfl,rfl⟩ rfl rfl rfl rfl rfl (by kernel_rfl) Tryz.func8 OY
  (of_decide_eq_true (by kernel_rfl)) (by unfold Func.isWrapper;first|(rw [if_pos (by decide +kernel)];kernel_rfl)|(rw [if_neg (by decide +kernel)];exact ⟨rfl,rfl⟩))
  (fun os started H enc _ F=>by rw [OpenClaim.pre_eq_preRow];exact OZ os started H enc F)
theorem SE (f:FuncId) (fn:Func) (hf:Tryz.pinned.checked.prog.funcNamed "scanfail/scanfaillaw16.LibraryUpper" = some f) (hfn:Tryz.pinned.checked.prog.funcs[f]?=some fn) :
  true=Tryz.pinned.checked.prog.looks []∧∀(j:Nat) t,fn.params[j]?=some t→Tryz.pinned.checked.prog.wantsStandIn t=false:=by
 obtain rfl:f=8:=Option.some.inj ((show Tryz.prog.funcNamed "scanfail/scanfaillaw16.LibraryUpper" = some 8 by kernel_rfl).symm.trans hf) |>.symm
 obtain rfl:fn=Tryz.f8:=(Option.some.inj (Tryz.func8.symm.trans hfn)).symm
 refine ⟨by kernel_rfl,fun j t ht=>?_⟩
 rw [Tryz.params8] at ht
 have hm:=Array.mem_of_getElem? ht
 simp at hm
 subst hm
 exact (show Tryz.prog.wantsStandIn 22=false by kernel_rfl)
theorem upper_card:Rows.LibraryUpperUptoCardSaid :=
 Claim7.holds_tied_plain_at .later [] _ _ _ _ WR (fun _ h=>by cases h) (by kernel_rfl) (fun _ h=>by cases h) libraryUpperUpto_row_tie rfl ⟨rfl,rfl⟩ (by kernel_rfl) rfl SE (by kernel_rfl)
#print axioms upper_card
end Go.Proofs.YtgoijmpahffnhaaGreatDoor

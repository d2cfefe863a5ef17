/- SyntaxTurns: what is written of a statement is read, a line that is read is right, and is read again from what is written of it: for every statement and every text that are together of bulk at most 1048576. -/
import Derived.Test.YtefjbnhpjdhjmaaGreatDoorStn
import Derived.Test.YtefjbnhpjdhjmaaGreatDoorTm12
import Derived.Test.YtefjbnhpjdhjmaaGreatDoorTm9
import Derived.Test.YtefjbnhpjdhjmaaGreatDoorCards
import Derived.Test.YtefjbnhpjdhjmaaGreatDoorTie
import Derived.Deep.DeepHandedRow
import Derived.Lib.LaidTab
import Derived.Stop.LaidErr
namespace Go.Proofs.YtefjbnhpjdhjmaaGreatDoor
set_option linter.all false
open Go.RowKit Go.Deep Go.ChangeShapes Go.WideShapes Go.ChangeAt Go.ChangeMaps
set_option maxRecDepth 100000
theorem XH:Tryz.prog.globalNamed "strconv.ErrRange" = some 7:=by kernel_rfl
theorem UD:(Tryz.prog.globals[7]?).map (·.type)=some 79:=by kernel_rfl
theorem XI:Tryz.prog.cellsOf 9=1:=by kernel_rfl
theorem ZO:Tryz.prog.cellsOf 185=1:=by kernel_rfl
theorem Sl : "*" ++ "errors.errorString" = "*errors.errorString" :=by decide
theorem adL (u:TypeId) (h:Tryz.prog.typeName? 3 u=some "*errors.errorString"):u=183 :=
 typeName_ptr_named (nm :="errors.errorString") (by rw [Sl];kernel_rfl) (by kernel_rfl) (by decide) u (by rw [Sl];exact h)
theorem ZP {W:World} (h:laidMetH Tryz.prog Rows.syntaxTurnsUptoRow.laid W):nV W:=by
 obtain ⟨a,s,hv,_,_,_⟩:=laid_sentinel (laidMet.tail (laidMet.tail (laidMet.tail (laidMet.tail h)))) XH UD Tryz.underlying79 adL Tryz.underlying183 Tryz.underlying185 rfl rfl Tryz.underlying9 ZO XI
 exact ⟨_,by simpa using World.var?_cell XH hv 0,.inr ⟨_,_,rfl⟩⟩
theorem adM:Tryz.prog.globalNamed "internal/strconv.uint64pow10" = some 1:=by kernel_rfl
theorem ZQ:(Tryz.prog.globals[1]?).map (·.type)=some 157:=by kernel_rfl
theorem ZR:Tryz.prog.cellsOf 157=20:=by kernel_rfl
theorem ZT:Tryz.prog.cellsOf 142=1:=by kernel_rfl
theorem XJ {W:World} (h:laidMetH Tryz.prog Rows.syntaxTurnsUptoRow.laid W):Lib.TabIs Tryz.prog W "internal/strconv.uint64pow10" .u64 Lib.pow10Tab :=
 Lib.tabIs_of_head adM ZQ Tryz.underlying157 Tryz.underlying142 ZT ZR (laidMet.tail (laidMet.tail h))
theorem ZU {H:Type} {enc:TypeId×Value→H} {W:World} {base:Nat} {v:Value} {d:DataW H} {ps:List MemPlace} (hval:Value.okWide Tryz.prog W .any base 30 v)
  (h:DataW.Trod enc Tryz.prog W 0 (fun _=>true) true 30 v d ps) (hb:Rows.uptoBulk d≤1048576):∃s a,v=bV a s∧oP s∧lT W (· < W.heap.size) a s∧StX a s:=by
 unfold Value.okWide at hval
 rw [Tryz.underlying30] at hval
 obtain ⟨cs,rfl,_,_⟩:=hval
 obtain ⟨fuel,hf⟩:=h
 obtain ⟨s,a,he,hz,ho,hx⟩:=Zt (x:=(d,ps)) hf hb
 have he':cs.toList=_:=he
 have ev:Value.agg cs=bV a s:=by rw [←Array.toArray_toList (xs:=cs),he'];rfl
 exact ⟨s,a,ev,hz,ho,hx⟩
theorem Kz (H:Type) (enc:TypeId×Value→H) (W:World) (base:Nat) (args:Array Value) (ds gs:List (DataW H)) (before:List MemPlace)
  (hval:∀(j:Nat) t v,Tryz.f3.params[j]?=some t→args[j]?=some v→Value.okWide Tryz.prog W .any base t v)
  (hW:DataW.Whole enc Tryz.prog Tryz.f3.params.toList Rows.syntaxTurnsSpec.vars false W args.toList ds gs before) (hk:Rows.uptoSmall H (ds++gs)=true) (hL:laidMetH Tryz.prog Rows.syntaxTurnsUptoRow.laid W) (hsh:W.ShapedOpen Tryz.prog) :
  Calls Tryz.prog 3 args W fun e W'=>∃v,e=.returned v∧Rows.syntaxTurnsSpec.post enc Tryz.prog Tryz.f3 false true false false W args v W':=by
 have hb:=of_decide_eq_true hk
 obtain ⟨p,q,hA0,hV,rfl,hfz,hnd⟩:=id hW
 have hA:DataW.TrodAll enc Tryz.prog W 0 (fun _=>true) true Tryz.f3.params.toList args.toList ds p:=hA0
 rw [Tryz.params3] at hA hval
 obtain ⟨v0,vs0,d0,ds0,p0,q0,hargs,rfl,rfl,h0,r0⟩:=trodAll_cons hA
 obtain ⟨v1,vs1,d1,ds1,p1,q1,rfl,rfl,rfl,h1,r1⟩:=trodAll_cons r0
 obtain ⟨rfl,rfl,rfl⟩:=trodAll_nil r1
 obtain rfl:args = #[v0,v1]:=by cases args;simp_all
 obtain ⟨rfl,rfl⟩:=trodVars_none hV
 have hb0:Rows.uptoBulk d0≤1048576:=by
  simp only [List.append_nil,Rows.uptoBulkAll] at hb;omega
 have hb1:Rows.uptoBulk d1≤1048576:=by
  simp only [List.append_nil,Rows.uptoBulkAll] at hb;omega
 obtain ⟨t,rfl,rfl,rfl,_⟩:=open_string Tryz.underlying9 (hval 1 9 v1 rfl rfl) h1
 have ht:t.size≤1000000000:=by
  rw [AX] at hb1;omega
 obtain ⟨s,a,rfl,hz,ho,hx⟩:=ZU (hval 0 30 v0 rfl rfl) h0 hb0
 have hm:=Tryz.laysM155.s1_3 W hsh
 have hG:Glob W:=⟨hm,XJ hL⟩
 obtain ⟨m,hm1⟩:=hG.1
 have g1:=cells_lt hm1
 have g2:=cells_lt (hG.2.cell adM 0 (by decide))
 refine (UE s a t W hz ho hx ht ⟨hG,g1,g2⟩ (JA.of hm (ZP hL))).mono fun e W' ⟨he,hk⟩=>?_
 exact ⟨_,he,Yu hW rfl rfl (by rw [Tryz.params3];intro t ht;simp at ht;rcases ht with rfl|rfl<;>exact ⟨by kernel_rfl,of_decide_eq_true (by kernel_rfl)⟩) rfl hk.below⟩
def UF:DataW Unit→List Value
 | .lit (.int k z)=>[.int k z]
 | _=>[]
def aer:DataW Unit→List Value
 | .agg l=>l.flatMap fun d=>match d with | .agg m=>m.flatMap UF|d=>UF d
 | d=>UF d
def EY (d:DataW Unit):Obj→Obj
 | .cells _ t frozen=>.cells (aer d).toArray t frozen
 | o=>o
noncomputable def low:Nat:=(World.holding Tryz.prog default ⟨#[],#[],[]⟩).heap.size
def XK (a:Nat):Obj→Obj
 | .cells _ t frozen=>.cells #[.iface 183 (.pointer (some ⟨a,0,none⟩))] t frozen
 | o=>o
def rangeS:aj:=⟨#[118,97,108,117,101,32,111,117,116,32,111,102,32,114,97,110,103,101]⟩
def abM:aj:=⟨#[105,110,118,97,108,105,100,32,115,121,110,116,97,120]⟩
noncomputable def laidWorld (os:Os):World :=
 let w0:=World.holding Tryz.prog os ⟨#[.cells #[.string rangeS] 185,.cells #[.string abM] 185],#[],[]⟩
 {w0 with heap:=((((((w0.heap.modify 4 (EY Rows.laid_math_bits_deBruijn32tab)).modify 5 (EY Rows.laid_math_bits_deBruijn64tab)).modify 1 (EY Rows.laid_internal_strconv_uint64pow10)).modify 3 (EY Rows.laid_unicode_utf8_acceptRanges)).modify 2 (EY Rows.laid_unicode_utf8_first)).modify 7 (XK low)).modify 6 (XK (low+1))}
def Dn:Array Value:=#[bV nilA dW,.string ⟨#[]⟩]
theorem laid_met (os:Os):laidMet Tryz.prog Rows.syntaxTurnsUptoRow.laid ((laidWorld os).forCall (fun _ _=>0) ⟨#[],Dn,[]⟩).memory :=
 laidMet_of_run' 8 (by kernel_rfl) (by kernel_rfl)
theorem reads (os:Os) {H:Type} (enc:TypeId×Value→H):∃places,DataW.whole enc Tryz.prog ((laidWorld os).forCall (fun _ _=>0) ⟨#[],Dn,[]⟩).memory Tryz.f3.params.toList Rows.syntaxTurnsSpec.vars false Dn.toList 8=some ([.agg [.lit (.string []),.lit (.int .i64 0),.agg [.lit (.int .i64 0),.lit (.string []),.lit (.int .i64 0),.lit (.string []),.nil],.agg [.lit (.int .i64 0),.lit (.string []),.lit (.int .i64 0),.lit (.string []),.nil],.agg [.lit (.int .i64 0),.lit (.string []),.lit (.int .i64 0),.lit (.string []),.nil],.lit (.string []),.lit (.string []),.nil,.nil,.lit (.string []),.lit (.string []),.lit (.string [])],.lit (.string [])],[],places) :=
 ⟨[],by kernel_rfl⟩
theorem P7 (os:Os) (started:os.Started) (H:Type) (enc:TypeId×Value→H) (F:Stop.Interp) :
  ReturnsInHanded {} Tryz.checked os 3 .any ((Rows.OpenSpec.upto Rows.syntaxTurnsSpec).preRow enc Tryz.prog Tryz.f3 Rows.syntaxTurnsUptoRow.domain false Rows.syntaxTurnsUptoRow.laid) (((Rows.OpenSpec.upto Rows.syntaxTurnsSpec).at F).post enc Tryz.prog Tryz.f3 false true false false):=by
 obtain ⟨places,hx⟩:=reads os enc
 refine returnsInHanded_of_row (C:=Tryz.checked) (s:=Rows.OpenSpec.upto Rows.syntaxTurnsSpec) Yr started (by kernel_rfl) Tryz.func3
  (witness_row_at (enc:=enc) (C:=Tryz.checked) false (laidWorld os) Dn rfl (by kernel_rfl) (by kernel_rfl) (by kernel_rfl)
   (OpenSpec.preRow_of_cond 8 hx (by kernel_rfl) (fun k hk=>by cases hk;kernel_rfl) (by kernel_rfl) (laid_met os))) ?_
 intro W base args ds gs before hval hW _ hcond _ hL hsh _
 exact Kz H enc W base args ds gs before hval hW (hcond _ rfl) hL hsh
theorem UG:Rows.SyntaxTurnsUptoSaid :=
 OpenClaim.holds_of_cond 3 Tryz.f3 rfl rfl rfl rfl rfl rfl rfl ⟨rfl,rfl,rfl,rfl,rfl⟩ rfl rfl rfl rfl rfl (by kernel_rfl) Tryz.func3 (by kernel_rfl)
  (of_decide_eq_true (by kernel_rfl)) (by unfold Func.isWrapper;first|(rw [if_pos (by decide +kernel)];kernel_rfl)|(rw [if_neg (by decide +kernel)];exact ⟨rfl,rfl⟩))
  (fun os started H enc _ F=>by rw [OpenClaim.pre_eq_preRow];exact P7 os started H enc F)
theorem QK (f:FuncId) (fn:Func) (hf:Tryz.pinned.checked.prog.funcNamed "scanfail/scanfaillaw10.SyntaxTurns" = some f) (hfn:Tryz.pinned.checked.prog.funcs[f]?=some fn) :
  true=Tryz.pinned.checked.prog.looks []∧∀(j:Nat) t,fn.params[j]?=some t→Tryz.pinned.checked.prog.wantsStandIn t=false:=by
 obtain rfl:f=3:=Option.some.inj ((show Tryz.prog.funcNamed "scanfail/scanfaillaw10.SyntaxTurns" = some 3 by kernel_rfl).symm.trans hf) |>.symm
 obtain rfl:fn=Tryz.f3:=(Option.some.inj (Tryz.func3.symm.trans hfn)).symm
 refine ⟨by kernel_rfl,fun j t ht=>?_⟩
 rw [Tryz.params3] at ht
 have hm:=Array.mem_of_getElem? ht
 simp at hm
 rcases hm with rfl|rfl
 ·exact (show Tryz.prog.wantsStandIn 30=false by kernel_rfl)
 ·exact (show Tryz.prog.wantsStandIn 9=false by kernel_rfl)
theorem turns_card:Rows.SyntaxTurnsUptoCardSaid :=
 Claim7.holds_tied_plain_at .later [] _ _ _ _ UG (fun _ h=>by cases h) (by kernel_rfl) (fun _ h=>by cases h) syntaxTurnsUpto_row_tie rfl ⟨rfl,rfl⟩ (by kernel_rfl) rfl QK (by kernel_rfl)
#print axioms turns_card
end Go.Proofs.YtefjbnhpjdhjmaaGreatDoor

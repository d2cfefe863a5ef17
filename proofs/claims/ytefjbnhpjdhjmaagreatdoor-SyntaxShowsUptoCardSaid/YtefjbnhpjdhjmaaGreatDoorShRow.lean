/- SyntaxShows: what is written of a program is read, and a remark or blanks ahead change nothing: for every list of statements, every text and every remark that are together of bulk at most 1048576. -/
import Derived.Test.YtefjbnhpjdhjmaaGreatDoorTs4
import Derived.Test.YtefjbnhpjdhjmaaGreatDoorTs14
import Derived.Test.YtefjbnhpjdhjmaaGreatDoorTs12
import Derived.Test.YtefjbnhpjdhjmaaGreatDoorCards
import Derived.Test.YtefjbnhpjdhjmaaGreatDoorTie
import Derived.Deep.DeepHandedRow
import Derived.Lib.LaidTab
import Derived.Stop.LaidErr
namespace Go.Proofs.YtefjbnhpjdhjmaaGreatDoor
set_option linter.all false
open Go.RowKit Go.Deep Go.ChangeShapes Go.WideShapes Go.ChangeAt Go.ChangeMaps
set_option maxRecDepth 100000
theorem Wp:Tryz.prog.globalNamed "strconv.ErrRange" = some 7:=by kernel_rfl
theorem Tj:(Tryz.prog.globals[7]?).map (·.type)=some 79:=by kernel_rfl
theorem Wq:Tryz.prog.cellsOf 9=1:=by kernel_rfl
theorem YV:Tryz.prog.cellsOf 185=1:=by kernel_rfl
theorem QX : "*" ++ "errors.errorString" = "*errors.errorString" :=by decide
theorem acO (u:TypeId) (h:Tryz.prog.typeName? 3 u=some "*errors.errorString"):u=183 :=
 typeName_ptr_named (nm :="errors.errorString") (by rw [QX];kernel_rfl) (by kernel_rfl) (by decide) u (by rw [QX];exact h)
theorem OM {W:World} (h:laidMetH Tryz.prog Rows.syntaxShowsUptoRow.laid W):mg W:=by
 obtain ⟨a,s,hv,_,_,_⟩:=laid_sentinel (laidMet.tail (laidMet.tail (laidMet.tail (laidMet.tail h)))) Wp Tj Tryz.underlying79 acO Tryz.underlying183 Tryz.underlying185 rfl rfl Tryz.underlying9 YV Wq
 exact ⟨_,by simpa using World.var?_cell Wp hv 0,.inr ⟨_,_,rfl⟩⟩
theorem acP:Tryz.prog.globalNamed "internal/strconv.uint64pow10" = some 1:=by kernel_rfl
theorem YW:(Tryz.prog.globals[1]?).map (·.type)=some 157:=by kernel_rfl
theorem YX:Tryz.prog.cellsOf 157=20:=by kernel_rfl
theorem YZ:Tryz.prog.cellsOf 142=1:=by kernel_rfl
theorem Ws {W:World} (h:laidMetH Tryz.prog Rows.syntaxShowsUptoRow.laid W):Lib.TabIs Tryz.prog W "internal/strconv.uint64pow10" .u64 Lib.pow10Tab :=
 Lib.tabIs_of_head acP YW Tryz.underlying157 Tryz.underlying142 YZ YX (laidMet.tail (laidMet.tail h))
theorem JQ (H:Type) (enc:TypeId×Value→H) (W:World) (base:Nat) (args:Array Value) (ds gs:List (DataW H)) (before:List MemPlace)
  (hval:∀(j:Nat) t v,Tryz.f4.params[j]?=some t→args[j]?=some v→Value.okWide Tryz.prog W .any base t v)
  (hW:DataW.Whole enc Tryz.prog Tryz.f4.params.toList Rows.syntaxShowsSpec.vars false W args.toList ds gs before) (hk:Rows.uptoSmall H (ds++gs)=true) (hL:laidMetH Tryz.prog Rows.syntaxShowsUptoRow.laid W) (hsh:W.ShapedOpen Tryz.prog) :
  Calls Tryz.prog 4 args W fun e W'=>∃v,e=.returned v∧Rows.syntaxShowsSpec.post enc Tryz.prog Tryz.f4 false true false false W args v W':=by
 have hb:=of_decide_eq_true hk
 obtain ⟨p,q,hA0,hV,rfl,hfz,hnd⟩:=id hW
 have hA:DataW.TrodAll enc Tryz.prog W 0 (fun _=>true) true Tryz.f4.params.toList args.toList ds p:=hA0
 rw [Tryz.params4] at hA hval
 obtain ⟨v0,vs0,d0,ds0,p0,q0,hargs,rfl,rfl,h0,r0⟩:=trodAll_cons hA
 obtain ⟨v1,vs1,d1,ds1,p1,q1,rfl,rfl,rfl,h1,r1⟩:=trodAll_cons r0
 obtain ⟨v2,vs2,d2,ds2,p2,q2,rfl,rfl,rfl,h2,r2⟩:=trodAll_cons r1
 obtain ⟨rfl,rfl,rfl⟩:=trodAll_nil r2
 obtain rfl:args = #[v0,v1,v2]:=by cases args;simp_all
 obtain ⟨rfl,rfl⟩:=trodVars_none hV
 have hb0:Rows.uptoBulk d0≤1048576:=by
  simp only [List.append_nil,Rows.uptoBulkAll] at hb;omega
 have hb1:Rows.uptoBulk d1≤1048576:=by
  simp only [List.append_nil,Rows.uptoBulkAll] at hb;omega
 have hb2:Rows.uptoBulk d2≤1048576:=by
  simp only [List.append_nil,Rows.uptoBulkAll] at hb;omega
 obtain ⟨t,rfl,rfl,rfl,_⟩:=open_string Tryz.underlying9 (hval 1 9 v1 rfl rfl) h1
 obtain ⟨rem,rfl,rfl,rfl,_⟩:=open_string Tryz.underlying9 (hval 2 9 v2 rfl rfl) h2
 have ht:t.size≤1100000:=by
  rw [xH] at hb1;omega
 have hrm:rem.size≤1100000:=by
  rw [xH] at hb2;omega
 obtain ⟨a0,n0,c0,rfl⟩:=okWide_slice Tryz.underlying43 (hval 0 43 v0 rfl rfl)
 obtain ⟨fuel,hf⟩:=h0
 obtain ⟨l,al,cl,hv,hl,hlen⟩:=V7 (x:=(d0,p0)) hf hb0
 have hm:=Tryz.laysM155.s1_3 W hsh
 have hG:Glob W:=⟨hm,Ws hL⟩
 obtain ⟨m,hm1⟩:=hG.1
 have g1:=cells_lt hm1
 have g2:=cells_lt (hG.2.cell acP 0 (by decide))
 have hgo:=Tn l al cl t rem W hl hlen ht hrm ⟨hG,g1,g2⟩ (Jd.of hm (OM hL)) (ReadW.of hm (OM hL))
 rw [←hv] at hgo
 refine hgo.mono fun e W' ⟨he,hk⟩=>?_
 exact ⟨_,he,XO hW rfl rfl (by rw [Tryz.params4];intro t ht;simp at ht;rcases ht with rfl|rfl<;>exact ⟨by kernel_rfl,of_decide_eq_true (by kernel_rfl)⟩) rfl hk.below⟩
def Tq:DataW Unit→List Value
 | .lit (.int k z)=>[.int k z]
 | _=>[]
def ady:DataW Unit→List Value
 | .agg l=>l.flatMap fun d=>match d with | .agg m=>m.flatMap Tq|d=>Tq d
 | d=>Tq d
def EC (d:DataW Unit):Obj→Obj
 | .cells _ t frozen=>.cells (ady d).toArray t frozen
 | o=>o
noncomputable def low:Nat:=(World.holding Tryz.prog default ⟨#[],#[],[]⟩).heap.size
def Wu (a:Nat):Obj→Obj
 | .cells _ t frozen=>.cells #[.iface 183 (.pointer (some ⟨a,0,none⟩))] t frozen
 | o=>o
def rangeS:aj:=⟨#[118,97,108,117,101,32,111,117,116,32,111,102,32,114,97,110,103,101]⟩
def aaN:aj:=⟨#[105,110,118,97,108,105,100,32,115,121,110,116,97,120]⟩
noncomputable def laidWorld (os:Os):World :=
 let w0:=World.holding Tryz.prog os ⟨#[.cells #[.string rangeS] 185,.cells #[.string aaN] 185],#[],[]⟩
 {w0 with heap:=((((((w0.heap.modify 4 (EC Rows.laid_math_bits_deBruijn32tab)).modify 5 (EC Rows.laid_math_bits_deBruijn64tab)).modify 1 (EC Rows.laid_internal_strconv_uint64pow10)).modify 3 (EC Rows.laid_unicode_utf8_acceptRanges)).modify 2 (EC Rows.laid_unicode_utf8_first)).modify 7 (Wu low)).modify 6 (Wu (low+1))}
def CZ:Array Value:=#[.slice none 0 0,.string ⟨#[]⟩,.string ⟨#[]⟩]
theorem laid_met (os:Os):laidMet Tryz.prog Rows.syntaxShowsUptoRow.laid ((laidWorld os).forCall (fun _ _=>0) ⟨#[],CZ,[]⟩).memory :=
 laidMet_of_run' 8 (by kernel_rfl) (by kernel_rfl)
theorem reads (os:Os) {H:Type} (enc:TypeId×Value→H):∃places,DataW.whole enc Tryz.prog ((laidWorld os).forCall (fun _ _=>0) ⟨#[],CZ,[]⟩).memory Tryz.f4.params.toList Rows.syntaxShowsSpec.vars false CZ.toList 8=some ([.nil,.lit (.string []),.lit (.string [])],[],places) :=
 ⟨[],by kernel_rfl⟩
theorem OO (os:Os) (started:os.Started) (H:Type) (enc:TypeId×Value→H) (F:Stop.Interp) :
  ReturnsInHanded {} Tryz.checked os 4 .any ((Rows.OpenSpec.upto Rows.syntaxShowsSpec).preRow enc Tryz.prog Tryz.f4 Rows.syntaxShowsUptoRow.domain false Rows.syntaxShowsUptoRow.laid) (((Rows.OpenSpec.upto Rows.syntaxShowsSpec).at F).post enc Tryz.prog Tryz.f4 false true false false):=by
 obtain ⟨places,hx⟩:=reads os enc
 refine returnsInHanded_of_row (C:=Tryz.checked) (s:=Rows.OpenSpec.upto Rows.syntaxShowsSpec) XL started (by kernel_rfl) Tryz.func4
  (witness_row_at (enc:=enc) (C:=Tryz.checked) false (laidWorld os) CZ rfl (by kernel_rfl) (by kernel_rfl) (by kernel_rfl)
   (OpenSpec.preRow_of_cond 8 hx (by kernel_rfl) (fun k hk=>by cases hk;kernel_rfl) (by kernel_rfl) (laid_met os))) ?_
 intro W base args ds gs before hval hW _ hcond _ hL hsh _
 exact JQ H enc W base args ds gs before hval hW (hcond _ rfl) hL hsh
theorem Tt:Rows.SyntaxShowsUptoSaid :=
 OpenClaim.holds_of_cond 4 Tryz.f4 rfl rfl rfl rfl rfl rfl rfl ⟨rfl,rfl,rfl,rfl,rfl⟩ rfl rfl rfl rfl rfl (by kernel_rfl) Tryz.func4 (by kernel_rfl)
  (of_decide_eq_true (by kernel_rfl)) (by unfold Func.isWrapper;first|(rw [if_pos (by decide +kernel)];kernel_rfl)|(rw [if_neg (by decide +kernel)];exact ⟨rfl,rfl⟩))
  (fun os started H enc _ F=>by rw [OpenClaim.pre_eq_preRow];exact OO os started H enc F)
theorem Qa (f:FuncId) (fn:Func) (hf:Tryz.pinned.checked.prog.funcNamed "scanfail/scanfaillaw10.SyntaxShows" = some f) (hfn:Tryz.pinned.checked.prog.funcs[f]?=some fn) :
  true=Tryz.pinned.checked.prog.looks []∧∀(j:Nat) t,fn.params[j]?=some t→Tryz.pinned.checked.prog.wantsStandIn t=false:=by
 obtain rfl:f=4:=Option.some.inj ((show Tryz.prog.funcNamed "scanfail/scanfaillaw10.SyntaxShows" = some 4 by kernel_rfl).symm.trans hf) |>.symm
 obtain rfl:fn=Tryz.f4:=(Option.some.inj (Tryz.func4.symm.trans hfn)).symm
 refine ⟨by kernel_rfl,fun j t ht=>?_⟩
 rw [Tryz.params4] at ht
 have hm:=Array.mem_of_getElem? ht
 simp at hm
 rcases hm with rfl|rfl
 ·exact (show Tryz.prog.wantsStandIn 43=false by kernel_rfl)
 ·exact (show Tryz.prog.wantsStandIn 9=false by kernel_rfl)
theorem shows_card:Rows.SyntaxShowsUptoCardSaid :=
 Claim7.holds_tied_plain_at .later [] _ _ _ _ Tt (fun _ h=>by cases h) (by kernel_rfl) (fun _ h=>by cases h) syntaxShowsUpto_row_tie rfl ⟨rfl,rfl⟩ (by kernel_rfl) rfl Qa (by kernel_rfl)
#print axioms shows_card
end Go.Proofs.YtefjbnhpjdhjmaaGreatDoor

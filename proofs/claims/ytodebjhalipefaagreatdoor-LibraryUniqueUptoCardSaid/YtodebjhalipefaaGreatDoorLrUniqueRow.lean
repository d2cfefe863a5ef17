/- LibraryUnique: for every list of texts that is of bulk at most 1048576. -/
import Derived.Test.YtodebjhalipefaaGreatDoorLrUniW
import Derived.Test.YtodebjhalipefaaGreatDoorLq8
import Derived.Test.YtodebjhalipefaaGreatDoorLrUniqueJ
import Derived.Test.YtodebjhalipefaaGreatDoorLawRow
import Derived.Test.YtodebjhalipefaaGreatDoorCards
import Derived.Test.YtodebjhalipefaaGreatDoorTie
import Derived.Deep.DeepHandedRow
import Derived.Lib.LaidTab
import Derived.Stop.LaidErr
namespace Go.Proofs.YtodebjhalipefaaGreatDoor
set_option linter.all false
open Go.RowKit Go.Deep Go.ChangeShapes Go.WideShapes Go.ChangeAt Go.ChangeMaps
set_option maxRecDepth 100000
theorem Cm:Tryz.prog.globalNamed "strconv.ErrRange" = some 5:=by kernel_rfl
theorem Ad:(Tryz.prog.globals[5]?).map (·.type)=some 219:=by kernel_rfl
theorem CG:Tryz.prog.cellsOf 9=1:=by kernel_rfl
theorem Fz:Tryz.prog.cellsOf 394=1:=by kernel_rfl
theorem zC : "*" ++ "errors.errorString" = "*errors.errorString" :=by decide
theorem NZ (u:TypeId) (h:Tryz.prog.typeName? 3 u=some "*errors.errorString"):u=392 :=
 typeName_ptr_named (nm :="errors.errorString") (by rw [zC];kernel_rfl) (by kernel_rfl) (by decide) u (by rw [zC];exact h)
theorem wZ {W:World} (h:laidMetH Tryz.prog Rows.libraryUniqueUptoRow.laid W):iD W:=by
 obtain ⟨a,s,hv,_,_,_⟩:=laid_sentinel (laidMet.tail (laidMet.tail (laidMet.tail (laidMet.tail h)))) Cm Ad Tryz.underlying219 NZ Tryz.underlying392 Tryz.underlying394 rfl rfl Tryz.underlying9 Fz CG
 exact ⟨_,by simpa using World.var?_cell Cm hv 0,.inr ⟨_,_,rfl⟩⟩
theorem FB:(Tryz.prog.globals[3]?).map (·.type)=some 372:=by kernel_rfl
theorem FC:Tryz.prog.cellsOf 372=20:=by kernel_rfl
theorem FD:Tryz.prog.cellsOf 89=1:=by kernel_rfl
theorem CJ {W:World} (h:laidMetH Tryz.prog Rows.libraryUniqueUptoRow.laid W):Lib.TabIs Tryz.prog W "internal/strconv.uint64pow10" .u64 Lib.pow10Tab :=
 Lib.tabIs_of_head NQ FB Tryz.underlying372 Tryz.underlying89 FD FC (laidMet.tail (laidMet.tail h))
theorem FH {W:World} (h:laidMetH Tryz.prog Rows.libraryUniqueUptoRow.laid W):jq W:=by
 have hp:=CJ h
 obtain ⟨ev,h1,h2⟩:=wZ h
 refine ⟨⟨cell_lt h1,ev,h1,h2⟩,?_,hp⟩
 unfold Lib.TabIs World.var? at hp
 simp only [NQ,Option.bind_some] at hp
 cases hb:W.heap[3]? with
 | none=>rw [hb] at hp;cases hp
 | some o=>exact (Array.getElem?_eq_some_iff.1 hb).1
theorem GN (H:Type) (enc:TypeId×Value→H) (W:World) (base:Nat) (args:Array Value) (ds gs:List (DataW H)) (before:List MemPlace)
  (hval:∀(j:Nat) t v,Tryz.f4.params[j]?=some t→args[j]?=some v→Value.okWide Tryz.prog W .any base t v)
  (hW:DataW.Whole enc Tryz.prog Tryz.f4.params.toList Rows.libraryUniqueSpec.vars false W args.toList ds gs before) (hk:Rows.uptoSmall H (ds++gs)=true) (hL:laidMetH Tryz.prog Rows.libraryUniqueUptoRow.laid W) (hsh:W.ShapedOpen Tryz.prog) :
  Calls Tryz.prog 4 args W fun e W'=>∃v,e=.returned v∧Rows.libraryUniqueSpec.post enc Tryz.prog Tryz.f4 false true false false W args v W':=by
 have hb:=of_decide_eq_true hk
 obtain ⟨p,q,hA0,hV,rfl,hfz,hnd⟩:=id hW
 have hA:DataW.TrodAll enc Tryz.prog W 0 (fun _=>true) true Tryz.f4.params.toList args.toList ds p:=hA0
 rw [Tryz.params4] at hA hval
 obtain ⟨v0,vs0,d0,ds0,p0,q0,hargs,rfl,rfl,h0,r0⟩:=trodAll_cons hA
 obtain ⟨rfl,rfl,rfl⟩:=trodAll_nil r0
 obtain rfl:args = #[v0]:=by cases args;simp_all
 obtain ⟨rfl,rfl⟩:=trodVars_none hV
 have hb0:Rows.uptoBulk d0≤1048576:=by
  simp only [List.append_nil,Rows.uptoBulkAll] at hb;omega
 obtain ⟨a0,n0,c0,rfl⟩:=okWide_slice Tryz.underlying22 (hval 0 22 v0 rfl rfl)
 obtain ⟨fuel,hf⟩:=h0
 obtain ⟨l,al,cl,hv,hl,hc,hll,_⟩:=Oa (x:=(d0,p0)) hf hb0
 have hgo:=aaO l al cl W (Tryz.laysM155.s1_3 W hsh) (wZ hL) (FH hL) hl hc hll
 rw [←hv] at hgo
 refine hgo.mono fun e W' ⟨he,hk⟩=>?_
 exact ⟨_,he,MW hW rfl rfl (by rw [Tryz.params4];intro t ht;simp at ht;rcases ht with rfl;exact ⟨by kernel_rfl,of_decide_eq_true (by kernel_rfl)⟩) rfl hk.below⟩
def Ae:DataW Unit→List Value
 | .lit (.int k z)=>[.int k z]
 | _=>[]
def Uk:DataW Unit→List Value
 | .agg l=>l.flatMap fun d=>match d with | .agg m=>m.flatMap Ae|d=>Ae d
 | d=>Ae d
def pq (d:DataW Unit):Obj→Obj
 | .cells _ t frozen=>.cells (Uk d).toArray t frozen
 | o=>o
noncomputable def low:Nat:=(World.holding Tryz.prog default ⟨#[],#[],[]⟩).heap.size
def CO (a:Nat):Obj→Obj
 | .cells _ t frozen=>.cells #[.iface 392 (.pointer (some ⟨a,0,none⟩))] t frozen
 | o=>o
def rangeS:aj:=⟨#[118,97,108,117,101,32,111,117,116,32,111,102,32,114,97,110,103,101]⟩
def Ji:aj:=⟨#[105,110,118,97,108,105,100,32,115,121,110,116,97,120]⟩
noncomputable def laidWorld (os:Os):World :=
 let w0:=World.holding Tryz.prog os ⟨#[.cells #[.string rangeS] 394,.cells #[.string Ji] 394],#[],[]⟩
 {w0 with heap:=((((((w0.heap.modify 6 (pq Rows.laid_math_bits_deBruijn32tab)).modify 7 (pq Rows.laid_math_bits_deBruijn64tab)).modify 3 (pq Rows.laid_internal_strconv_uint64pow10)).modify 2 (pq Rows.laid_unicode_utf8_acceptRanges)).modify 1 (pq Rows.laid_unicode_utf8_first)).modify 5 (CO low)).modify 4 (CO (low+1))}
def mZ:Array Value:=#[.slice none 0 0]
theorem laid_met (os:Os):laidMet Tryz.prog Rows.libraryUniqueUptoRow.laid ((laidWorld os).forCall (fun _ _=>0) ⟨#[],mZ,[]⟩).memory :=
 laidMet_of_run' 8 (by kernel_rfl) (by kernel_rfl)
theorem reads (os:Os) {H:Type} (enc:TypeId×Value→H):∃places,DataW.whole enc Tryz.prog ((laidWorld os).forCall (fun _ _=>0) ⟨#[],mZ,[]⟩).memory Tryz.f4.params.toList Rows.libraryUniqueSpec.vars false mZ.toList 8=some ([.nil],[],places) :=
 ⟨[],by kernel_rfl⟩
theorem LH (os:Os) (started:os.Started) (H:Type) (enc:TypeId×Value→H) (F:Stop.Interp) :
  ReturnsInHanded {} Tryz.checked os 4 .any ((Rows.OpenSpec.upto Rows.libraryUniqueSpec).preRow enc Tryz.prog Tryz.f4 Rows.libraryUniqueUptoRow.domain false Rows.libraryUniqueUptoRow.laid) (((Rows.OpenSpec.upto Rows.libraryUniqueSpec).at F).post enc Tryz.prog Tryz.f4 false true false false):=by
 obtain ⟨places,hx⟩:=reads os enc
 refine returnsInHanded_of_row (C:=Tryz.checked) (s:=Rows.OpenSpec.upto Rows.libraryUniqueSpec) MV started (by kernel_rfl) Tryz.func4
  (witness_row_at (enc:=enc) (C:=Tryz.checked) false (laidWorld os) mZ rfl (by kernel_rfl) (by kernel_rfl) (by kernel_rfl)
   (OpenSpec.preRow_of_cond 8 hx (by kernel_rfl) (fun k hk=>by cases hk;kernel_rfl) (by kernel_rfl) (laid_met os))) ?_
 intro W base args ds gs before hval hW _ hcond _ hL hsh _
 exact GN H enc W base args ds gs before hval hW (hcond _ rfl) hL hsh
theorem Qy:Rows.LibraryUniqueUptoSaid :=
 OpenClaim.holds_of_cond 4 Tryz.f4 rfl rfl rfl rfl rfl rfl rfl ⟨rfl,rfl,rfl,rfl,rfl⟩ rfl rfl rfl rfl rfl (by kernel_rfl) Tryz.func4 LG
  (of_decide_eq_true (by kernel_rfl)) (by unfold Func.isWrapper;first|(rw [if_pos (by decide +kernel)];kernel_rfl)|(rw [if_neg (by decide +kernel)];exact ⟨rfl,rfl⟩))
  (fun os started H enc _ F=>by rw [OpenClaim.pre_eq_preRow];exact LH os started H enc F)
theorem Om (f:FuncId) (fn:Func) (hf:Tryz.pinned.checked.prog.funcNamed "scanfail/scanfaillaw16.LibraryUnique" = some f) (hfn:Tryz.pinned.checked.prog.funcs[f]?=some fn) :
  true=Tryz.pinned.checked.prog.looks []∧∀(j:Nat) t,fn.params[j]?=some t→Tryz.pinned.checked.prog.wantsStandIn t=false:=by
 obtain rfl:f=4:=Option.some.inj ((show Tryz.prog.funcNamed "scanfail/scanfaillaw16.LibraryUnique" = some 4 by kernel_rfl).symm.trans hf) |>.symm
 obtain rfl:fn=Tryz.f4:=(Option.some.inj (Tryz.func4.symm.trans hfn)).symm
 refine ⟨by kernel_rfl,fun j t ht=>?_⟩
 rw [Tryz.params4] at ht
 have hm:=Array.mem_of_getElem? ht
 simp at hm
 subst hm
 exact (show Tryz.prog.wantsStandIn 22=false by kernel_rfl)
theorem unique_card:Rows.LibraryUniqueUptoCardSaid :=
 Claim7.holds_tied_plain_at .later [] _ _ _ _ Qy (fun _ h=>by cases h) (by kernel_rfl) (fun _ h=>by cases h) libraryUniqueUpto_row_tie rfl ⟨rfl,rfl⟩ (by kernel_rfl) rfl Om (by kernel_rfl)
#print axioms unique_card
end Go.Proofs.YtodebjhalipefaaGreatDoor

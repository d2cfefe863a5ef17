/-  -/
import Derived.Test.YtefjbnhpjdhjmaaGreatDoorSamE
import Derived.Test.YtefjbnhpjdhjmaaGreatDoorTs12
import Derived.Test.YtefjbnhpjdhjmaaGreatDoorTs21
namespace Go.Proofs.YtefjbnhpjdhjmaaGreatDoor
set_option linter.all false
open Go.RowKit
set_option maxRecDepth 100000
set_option maxHeartbeats 8000000
theorem OL {p:aA} {v1 v2:Value} {w0 w:World} (h1:gV w (· < w0.heap.size) v1 p) (h2:gV w (· < w0.heap.size) v2 p) (hs:sizeT p≤1048576) (hS:Safe (· < w0.heap.size) aC w.heap.size) :
  Calls Tryz.prog 21 #[v1,v2] w (mY true w)∧Calls Tryz.prog 22 #[v1,v2] w (mY true w) :=
 ⟨YT 1048576 p v1 v2 _ _ w hs (by omega) h1 h2 hS hS,YU 1048576 p v1 v2 _ _ w hs (by omega) h1 h2 hS hS⟩
theorem V9 {l:List aj} {a b:Option Addr} {c d:Nat} {w0 w:World} (h1:nD w (· < w0.heap.size) a l) (h2:nD w (· < w0.heap.size) b l) (hl:l.length<1000000000) :
  Calls Tryz.prog 23 #[.slice a l.length c,.slice b l.length d] w (mY true w):=by
 refine (MF l l _ _ _ _ w ⟨a,c,rfl,h1⟩ ⟨b,d,rfl,h2⟩ hl hl).mono ?_
 rintro e w' ⟨rfl,n,rfl⟩
 exact ⟨by rw [ak rfl],Kept.drewN (Kept.refl aC w) n⟩
theorem LD (s:aN) (a1 a2:ig) (w:World) (hz:nX s) (h1:lH w (· < w.heap.size) a1 s) (h2:lH w (· < w.heap.size) a2 s):Calls Tryz.prog 8 #[bV a1 s,bV a2 s] w (mY true w):=by
 have B1:=dF.new w a1 s
 have B2:=dF.new (w.alloc (.cells (aV a1 s).toArray 30)) a2 s
 have k1:Kept aC w (w.alloc (.cells (aV a1 s).toArray 30)):=(Kept.refl aC w).alloc _
 have k2:Kept aC (w.alloc (.cells (aV a1 s).toArray 30)) ((w.alloc (.cells (aV a1 s).toArray 30)).alloc (.cells (aV a2 s).toArray 30)):=(Kept.refl aC _).alloc _
 have es:(w.alloc (.cells (aV a1 s).toArray 30)).heap.size=w.heap.size+1:=by simp
 rw [es] at B2
 unfold aV at B2 k1 k2
 have A0:oh w.heap.size a1 s w _:=⟨B1.kept k2 (fun h=>h),h1.to (k1.trans k2) (Safe.lt (Nat.le_refl _)) (fun _ h=>h),k1.trans k2⟩
 have C0:oh (w.heap.size+1) a2 s w _:=⟨B2,h2.to (k1.trans k2) (Safe.lt (Nat.le_refl _)) (fun _ h=>h),k1.trans k2⟩
 have Qm:Hid (∀wy,oh w.heap.size a1 s w wy→oh (w.heap.size+1) a2 s w wy→Calls Tryz.prog 21 #[DF a1 s,DF a2 s] wy (mY true wy)):=fun wy x y=>(OL (x.target hz) (y.target hz) hz.target.t x.safe).1
 have HVV:Hid (∀wy,oh w.heap.size a1 s w wy→oh (w.heap.size+1) a2 s w wy→Calls Tryz.prog 21 #[DI a1 s,DI a2 s] wy (mY true wy)):=fun wy x y=>(OL (x.value hz) (y.value hz) hz.value.t x.safe).1
 have Uj:Hid (∀wy,oh w.heap.size a1 s w wy→oh (w.heap.size+1) a2 s w wy→Calls Tryz.prog 22 #[DJ a1 s,DJ a2 s] wy (mY true wy)):=fun wy x y=>(OL (x.pat hz) (y.pat hz) hz.pat.t x.safe).2
 have IL:Hid (∀wy,oh w.heap.size a1 s w wy→oh (w.heap.size+1) a2 s w wy→Calls Tryz.prog 23 #[.slice a1.ma s.params.length a1.mc,.slice a2.ma s.params.length a2.mc] wy (mY true wy)):=fun wy x y=>V9 x.ok.params y.ok.params hz.params.1
 have HSL:Hid (∀wy,oh w.heap.size a1 s w wy→oh (w.heap.size+1) a2 s w wy→Calls Tryz.prog 23 #[.slice a1.la s.locals.length a1.lc,.slice a2.la s.locals.length a2.lc] wy (mY true wy)):=fun wy x y=>V9 x.ok.locals y.ok.locals hz.locals.1
 unfold DF at Qm
 unfold DI at HVV
 unfold DJ at Uj
 obtain ⟨c0,c1,c2,c3,c4,c5,c6,c7,c8,c9,c10,c11,c12,c13,c14,c15,c16,c17,c18,c19,c20,c21,dX,c23⟩:=A0.box.cells
 obtain ⟨d0,d1,d2,d3,d4,d5,d6,d7,d8,d9,d10,d11,d12,d13,zu,Bc,zx,zq,Af,yC,yD,Dx,Dy,Dz⟩:=C0.box.cells
 have AA:=ah A0;have BB:=ah C0
 clear B1 B2 k1 k2 es h1 h2 A0 C0
 have e1:(s.kind==s.kind)=true:=by simp
 unfold bV
 go_enter Tryz.func8, Tryz.ntmps8
 go_wp2_with (first
  | (go_at_call 21;(with_reducible refine (Qm.out _ AA.out BB.out).mono ?_);rintro e w2 ⟨rfl,k_⟩;(have A_:=AA.out.next k_);(have B_:=BB.out.next k_);clear k_;clear c0 c1 c2 c3 c4 c5 c6 c7 c8 c9 c10 c11 c12 c13 c14 c15 c16 c17 c18 c19 c20 c21 dX c23 d0 d1 d2 d3 d4 d5 d6 d7 d8 d9 d10 d11 d12 d13 zu Bc zx zq Af yC yD Dx Dy Dz;obtain ⟨c0,c1,c2,c3,c4,c5,c6,c7,c8,c9,c10,c11,c12,c13,c14,c15,c16,c17,c18,c19,c20,c21,dX,c23⟩:=A_.box.cells;obtain ⟨d0,d1,d2,d3,d4,d5,d6,d7,d8,d9,d10,d11,d12,d13,zu,Bc,zx,zq,Af,yC,yD,Dx,Dy,Dz⟩:=B_.box.cells;replace AA:=ah A_;replace BB:=ah B_;clear A_ B_)
  | (go_at_call 21;(with_reducible refine (HVV.out _ AA.out BB.out).mono ?_);rintro e w2 ⟨rfl,k_⟩;(have A_:=AA.out.next k_);(have B_:=BB.out.next k_);clear k_;clear c0 c1 c2 c3 c4 c5 c6 c7 c8 c9 c10 c11 c12 c13 c14 c15 c16 c17 c18 c19 c20 c21 dX c23 d0 d1 d2 d3 d4 d5 d6 d7 d8 d9 d10 d11 d12 d13 zu Bc zx zq Af yC yD Dx Dy Dz;obtain ⟨c0,c1,c2,c3,c4,c5,c6,c7,c8,c9,c10,c11,c12,c13,c14,c15,c16,c17,c18,c19,c20,c21,dX,c23⟩:=A_.box.cells;obtain ⟨d0,d1,d2,d3,d4,d5,d6,d7,d8,d9,d10,d11,d12,d13,zu,Bc,zx,zq,Af,yC,yD,Dx,Dy,Dz⟩:=B_.box.cells;replace AA:=ah A_;replace BB:=ah B_;clear A_ B_)
  | (go_at_call 22;(with_reducible refine (Uj.out _ AA.out BB.out).mono ?_);rintro e w2 ⟨rfl,k_⟩;(have A_:=AA.out.next k_);(have B_:=BB.out.next k_);clear k_;clear c0 c1 c2 c3 c4 c5 c6 c7 c8 c9 c10 c11 c12 c13 c14 c15 c16 c17 c18 c19 c20 c21 dX c23 d0 d1 d2 d3 d4 d5 d6 d7 d8 d9 d10 d11 d12 d13 zu Bc zx zq Af yC yD Dx Dy Dz;obtain ⟨c0,c1,c2,c3,c4,c5,c6,c7,c8,c9,c10,c11,c12,c13,c14,c15,c16,c17,c18,c19,c20,c21,dX,c23⟩:=A_.box.cells;obtain ⟨d0,d1,d2,d3,d4,d5,d6,d7,d8,d9,d10,d11,d12,d13,zu,Bc,zx,zq,Af,yC,yD,Dx,Dy,Dz⟩:=B_.box.cells;replace AA:=ah A_;replace BB:=ah B_;clear A_ B_)
  | (go_at_call 23;(with_reducible refine (IL.out _ AA.out BB.out).mono ?_);rintro e w2 ⟨rfl,k_⟩;(have A_:=AA.out.next k_);(have B_:=BB.out.next k_);clear k_;clear c0 c1 c2 c3 c4 c5 c6 c7 c8 c9 c10 c11 c12 c13 c14 c15 c16 c17 c18 c19 c20 c21 dX c23 d0 d1 d2 d3 d4 d5 d6 d7 d8 d9 d10 d11 d12 d13 zu Bc zx zq Af yC yD Dx Dy Dz;obtain ⟨c0,c1,c2,c3,c4,c5,c6,c7,c8,c9,c10,c11,c12,c13,c14,c15,c16,c17,c18,c19,c20,c21,dX,c23⟩:=A_.box.cells;obtain ⟨d0,d1,d2,d3,d4,d5,d6,d7,d8,d9,d10,d11,d12,d13,zu,Bc,zx,zq,Af,yC,yD,Dx,Dy,Dz⟩:=B_.box.cells;replace AA:=ah A_;replace BB:=ah B_;clear A_ B_)
  | (go_at_call 23;(with_reducible refine (HSL.out _ AA.out BB.out).mono ?_);rintro e w2 ⟨rfl,k_⟩;(have A_:=AA.out.next k_);(have B_:=BB.out.next k_);clear k_;clear c0 c1 c2 c3 c4 c5 c6 c7 c8 c9 c10 c11 c12 c13 c14 c15 c16 c17 c18 c19 c20 c21 dX c23 d0 d1 d2 d3 d4 d5 d6 d7 d8 d9 d10 d11 d12 d13 zu Bc zx zq Af yC yD Dx Dy Dz;obtain ⟨c0,c1,c2,c3,c4,c5,c6,c7,c8,c9,c10,c11,c12,c13,c14,c15,c16,c17,c18,c19,c20,c21,dX,c23⟩:=A_.box.cells;obtain ⟨d0,d1,d2,d3,d4,d5,d6,d7,d8,d9,d10,d11,d12,d13,zu,Bc,zx,zq,Af,yC,yD,Dx,Dy,Dz⟩:=B_.box.cells;replace AA:=ah A_;replace BB:=ah B_;clear A_ B_))
 go_ret
 exact ⟨rfl,AA.out.keep⟩
end Go.Proofs.YtefjbnhpjdhjmaaGreatDoor

/- The reference of chapter 4: Size, by a queue. The reference of chapter 4: Wrong. append(append(append([]string{}, params...), locals...), entry) in a region that draws its order. The document's Label, Func: which statement a label stands at, which one defines a function. The document's Exprs: a statement's expressions. append(append([]string{name}, params...), locals...) in a region that draws its order. The document's named: what is wrong with the names that a statement brings (printed by gen/nm.py, gen/nm_put.py). The document's uses: what is wrong with what a statement speaks of. The document's Check of a program. (*first).say: the first thing that is wrong is kept; check.Parts: where a statement's expressions lie. (*Table).calls: what is wrong with the calls of an expression. -/
import Derived.Test.YtlnhcgihpclpaaaGreatDoorLm8
import Derived.Test.YtlnhcgihpclpaaaGreatDoorLm3
import Derived.Deep.LoopGhost
import Derived.Test.YtlnhcgihpclpaaaGreatDoorLm23
import Derived.Test.YtlnhcgihpclpaaaGreatDoorLm25
import Derived.Test.YtlnhcgihpclpaaaGreatDoorLm1
import Derived.Test.YtlnhcgihpclpaaaGreatDoorBi
import Derived.Test.YtlnhcgihpclpaaaGreatDoorSt3
import Derived.Test.YtlnhcgihpclpaaaGreatDoorLm20
import Derived.BigQuiet
import Derived.Test.YtlnhcgihpclpaaaGreatDoorLm12
import Derived.Test.YtlnhcgihpclpaaaGreatDoorLm14
namespace Go.Proofs.YtlnhcgihpclpaaaGreatDoor
set_option linter.all false
open Go.RowKit

/-- Six cells that are a pattern's node with its depth. -/
def Node6 (w : World) (S : Nat → Prop) (c : List Value) (x : PatT × Nat) : Prop := ∃ c5, c = c5 ++ [.int .i64 x.2] ∧ Node5 w S c5 x.1
def Row6 (w : World) (S : Nat → Prop) : List Value → List (PatT × Nat) → Prop
  | cs, [] => cs = []
  | cs, p :: ps => ∃ c rest, cs = c ++ rest ∧ Node6 w S c p ∧ Row6 w S rest ps
theorem Node6.length {w : World} {S : Nat → Prop} {c : List Value} {p : PatT × Nat} (h : Node6 w S c p) : c.length = 6 := by obtain ⟨_, rfl, h⟩ := h; rw [List.length_append, h.length]; rfl
theorem Row6.length {w : World} {S : Nat → Prop} : ∀ {l : List (PatT × Nat)} {cs : List Value}, Row6 w S cs l → cs.length = l.length * 6
  | [], cs, h => by rw [Row6] at h; subst h; rfl
  | p :: ps, cs, h => by
    rw [Row6] at h; obtain ⟨c, r, rfl, h1, h2⟩ := h
    rw [List.length_append, h1.length, h2.length, List.length_cons]; omega
theorem Row6.append {w : World} {S : Nat → Prop} : ∀ {l l' : List (PatT × Nat)} {cs cs' : List Value}, Row6 w S cs l → Row6 w S cs' l' → Row6 w S (cs ++ cs') (l ++ l')
  | [], _, cs, _, h, h' => by rw [Row6] at h; subst h; exact h'
  | p :: ps, _, cs, _, h, h' => by
    rw [Row6] at h; obtain ⟨c, r, rfl, h1, h2⟩ := h
    rw [List.append_assoc, List.cons_append, Row6]
    exact ⟨c, _, rfl, h1, h2.append h'⟩
theorem Row6.kept {w w' : World} {S : Nat → Prop} {X : Nat → Prop} : ∀ {l : List (PatT × Nat)} {cs : List Value}, Row6 w S cs l → Kept X w w' → Safe S X w.heap.size → Row6 w' S cs l
  | [], _, h, _, _ => h
  | p :: ps, cs, h, hk, hs => by
    rw [Row6] at h ⊢; obtain ⟨c, r, rfl, ⟨c5, rfl, h1⟩, h2⟩ := h
    exact ⟨_, r, rfl, ⟨c5, rfl, h1.kept hk hs⟩, h2.kept hk hs⟩

end Go.Proofs.YtlnhcgihpclpaaaGreatDoor

namespace Go.Proofs.YtlnhcgihpclpaaaGreatDoor
set_option linter.all false
open Go.RowKit

/-- An element of a row of patterns, as a pattern in memory. -/
theorem Row5.at {w : World} {S : Nat → Prop} : ∀ {l : List PatT} {cs : List Value}, Row5 w S cs l → ∀ (g o : Nat), (∀ j u, cs[j]? = some u → w.cell? ⟨g, o + j, none⟩ = some u) →
    ∀ (j : Nat) (hj : j < l.length), PatAt w (fun b => S b ∨ b = g) g (o + j * 5) l[j]
  | [], cs, h, g, o, hc, j, hj => by simp at hj
  | p :: ps, cs, h, g, o, hc, j, hj => by
    rw [Row5] at h; obtain ⟨c, r, rfl, ⟨ka, cap, rfl, hz, hk⟩, h2⟩ := h
    cases j with
    | zero =>
      obtain ⟨k, t, n, nm, kids⟩ := p
      rw [List.getElem_cons_zero]; unfold PatAt
      refine ⟨.inr rfl, hz, hc 0 _ rfl, hc 1 _ rfl, hc 2 _ rfl, hc 3 _ rfl, ka, cap, hc 4 _ rfl, PatsAt.same (fun _ _ => rfl) (fun b h => .inl h) _ _ hk⟩
    | succ j =>
      rw [List.getElem_cons_succ, show o + (j + 1) * 5 = o + 5 + j * 5 by omega]
      refine h2.at g (o + 5) (fun i u hi => ?_) j (by simpa using hj)
      rw [show o + 5 + i = o + (5 + i) by omega]; exact hc _ _ (by rw [List.getElem?_append_right (by simp)]; simpa using hi)
end Go.Proofs.YtlnhcgihpclpaaaGreatDoor

namespace Go.Proofs.YtlnhcgihpclpaaaGreatDoor
set_option linter.all false
open Go.RowKit

theorem infoStr : (Tryz.prog.info? 9).map (fun i => (i.zero, i.size, i.bytes)) = some (some (.string ⟨#[]⟩), 1, 16) := by kernel_rfl
theorem strs_src {w : World} {S : Nat → Prop} {a : Option Addr} {l : List ByteArray} (h : StrsAt w S a l) (c : Nat) : Src Tryz.prog 1 25 (.slice a l.length c) l.length (l.map Value.string) w := by
  cases a with
  | none =>
    have : l = [] := by
      cases l with
      | nil => rfl
      | cons x r => obtain ⟨b, o, e, _⟩ := h (by simp); cases e
    subst this
    exact Src.ofNil _ Tryz.underlying25 _
  | some ad =>
    refine Src.ofSlice _ Tryz.underlying25 _ _ _ _ (by simp) (fun j u hu => ?_) (by intro u hu; obtain ⟨e, _, rfl⟩ := List.mem_map.1 hu; rfl)
    rw [List.getElem?_map] at hu
    cases hj : l[j]? with
    | none => rw [hj] at hu; cases hu
    | some y =>
      rw [hj] at hu
      obtain ⟨hlt, hy⟩ := List.getElem?_eq_some_iff.1 hj
      obtain ⟨b, o, e, _, hc⟩ := h (by omega)
      simp only [Option.some.injEq] at e
      subst e
      have e1 : (⟨b, o, none⟩ : Addr).add j = ⟨b, o + j, none⟩ := by unfold Addr.add; split <;> simp_all
      rw [e1, hc j hlt, hy]; exact hu
theorem row_src {w : World} {g : Nat} {x : ByteArray} (hg : w.heap[g]? = some (.cells #[.string x] 9 (0, 0))) : Src Tryz.prog 1 25 (.slice (some ⟨g, 0, none⟩) 1 1) 1 [.string x] w :=
  strs_src (l := [x]) (strs_row hg (S := fun _ => True) trivial) 1

def Ch (w : World) (B n : Nat) (xs : List Value) (u : Value) : Prop := ∃ a c, u = .slice a n c ∧ Win w B 9 1 (.slice a n c) n xs
structure RowJ (B n1 n2 n3 : Nat) (xs1 xs2 xs3 : List Value) (e : ByteArray) (b0 b3 b6 b9 b10 : Bool) (u0 u3 u6 u9 u10 : Value) (w : World) : Prop where
  base : B ≤ w.heap.size
  h0 : b0 = true → b3 = false → Ch w B 0 [] u0
  h3 : b3 = true → b6 = false → Ch w B n1 xs1 u3
  h6 : b6 = true → b10 = false → Ch w B n2 xs2 u6
  h10 : b10 = true → Ch w B n3 xs3 u10
  h9 : b9 = true → b10 = false → ∃ g, u9 = .slice (some ⟨g, 0, none⟩) 1 1 ∧ g < w.heap.size ∧ w.heap[g]? = some (.cells #[.string e] 9 (0, 0)) ∧
    (b0 = true → b3 = false → u0.ownBlock ≠ some g) ∧ (b3 = true → b6 = false → u3.ownBlock ≠ some g) ∧ (b6 = true → u6.ownBlock ≠ some g)
section
variable {B n1 n2 n3 : Nat} {xs1 xs2 xs3 : List Value} {e : ByteArray} {b0 b3 b6 b9 b10 : Bool} {u0 u3 u6 u9 u10 : Value} {w w' : World}
theorem Ch.alloc (h : Ch w B n1 xs1 u0) (o : Obj) : Ch (w.alloc o) B n1 xs1 u0 := by
  obtain ⟨a, c, rfl, h⟩ := h
  exact ⟨a, c, rfl, h.alloc o⟩
theorem Ch.lt (h : Ch w B n1 xs1 u0) {k : Nat} (hk : u0.ownBlock = some k) : B ≤ k ∧ k < w.heap.size := by
  obtain ⟨a, c, rfl, h⟩ := h
  exact h.lt k hk
theorem RowJ.op9 (h : RowJ B n1 n2 n3 xs1 xs2 xs3 e b0 b3 b6 false false u0 u3 u6 u9 u10 w) :
    RowJ B n1 n2 n3 xs1 xs2 xs3 e b0 b3 b6 true false u0 u3 u6 (.slice (some ⟨w.heap.size, 0, none⟩) 1 1) u10 (w.alloc (.cells #[.string e] 9)) := by
  refine ⟨by have := h.base; simp; omega, fun a b => (h.h0 a b).alloc _, fun a b => (h.h3 a b).alloc _, fun a b => (h.h6 a b).alloc _, fun a => by (cases a), fun _ _ => ⟨_, rfl, by simp, heap_alloc_new w _, fun a b hx => ?_, fun a b hx => ?_, fun a hx => ?_⟩⟩
  · have := ((h.h0 a b).lt hx).2; omega
  · have := ((h.h3 a b).lt hx).2; omega
  · have := ((h.h6 a rfl).lt hx).2; omega
theorem RowJ.op10 (h : RowJ B n1 n2 n3 xs1 xs2 xs3 e b0 b3 true b9 false u0 u3 u6 u9 u10 w) {v : Value} (hv : Ch w' B n3 xs3 v) (hs : w.heap.size ≤ w'.heap.size) (h3 : b3 = true) :
    RowJ B n1 n2 n3 xs1 xs2 xs3 e b0 b3 true b9 true u0 u3 u6 u9 v w' :=
  ⟨Nat.le_trans h.base hs, fun _ h => (by rw [h3] at h; cases h), fun _ h => by (cases h), fun _ h => by (cases h), fun _ => hv, fun _ h => by (cases h)⟩
end
theorem opX_app {J : (Nat → Bool) → (Nat → Value) → World → Prop} {X : Nat → Prop} {l : Nat → Bool} {i : Nat} {o : Oper} {x : Act} {w : World} {R : Nat → Value → World → Prop} {Q : Exit → Act → World → Prop} (s y : Operand)
    (ho : o.op = .call { callee := .builtin .append, args := #[s, y], argTypes := #[25, 25] })
    {B n : Nat} {xs : List Value} {v : Value} (hs : x.eval s = v) (hown : Ch w B n xs v) (yv : Value) (m : Nat) (news : List Value) (hy : x.eval y = yv) (hsrc : Src Tryz.prog 1 25 yv m news w)
    (hn : n + m ≤ 4000000000) (hB : B ≤ w.heap.size) (hX : ∀ k, B ≤ k → X k) (hR : ∀ v w', R i v w')
    (h : ∀ v' w', Ch w' B (n + m) (xs ++ news) v' → w.grownBy w' v.ownBlock → (v'.ownBlock = v.ownBlock ∨ v'.ownBlock = some w.heap.size) → ∀ l', (∀ j, l' j = true ↔ j = i ∨ l j = true) → J l' (fun t => (x.put o.dst v').tmps.getD t undef) w') :
    o.wp Tryz.prog x w (fun a' w' => ∃ v, a' = x.put o.dst v ∧ (∀ d, o.dst = some d → R i v w') ∧ Kept X w w' ∧ ∀ l', (∀ j, l' j = true ↔ j = i ∨ l j = true) → J l' (fun t => (x.put o.dst v).tmps.getD t undef) w') Q := by
  obtain ⟨i0, hi0, hz0, hz1, hz2⟩ := info_parts infoStr
  obtain ⟨a, c, rfl, hW⟩ := hown
  refine wp_append_win w s y _ _ ho B 9 i0 (.string ⟨#[]⟩) 1 16 Tryz.underlying25 hi0 hz0 hz1 hz2 rfl (.slice a n c) n xs hs hW yv m news hy hsrc (by unfold maxLen; omega) (by omega) hB ?_
  intro a' c' w' hW' hgr hoo
  exact ⟨_, rfl, fun _ _ => hR _ _, (Kept.refl X w).grown hgr fun k hk => .inl (hX k (hW.lt k hk).1), h _ _ ⟨a', c', rfl, hW'⟩ hgr hoo⟩
end Go.Proofs.YtlnhcgihpclpaaaGreatDoor

namespace Go.Proofs.YtlnhcgihpclpaaaGreatDoor
set_option linter.all false
open Go.RowKit

def labelGo (n : ByteArray) : Nat → List StT → Int
  | _, [] => -1
  | i, s :: r => if s.label = n ∧ n.size ≠ 0 then (i : Int) else labelGo n (i + 1) r
/-- At which statement a label stands (below 0: at none). -/
def labelF (l : List StT) (n : ByteArray) : Int := labelGo n 0 l
def funcGo (n : ByteArray) : Nat → List StT → Int
  | _, [] => -1
  | i, s :: r => if s.kind = 7 ∧ s.name = n then (i : Int) else funcGo n (i + 1) r
/-- Which statement defines a function (below 0: none). -/
def funcF (l : List StT) (n : ByteArray) : Int := funcGo n 0 l
end Go.Proofs.YtlnhcgihpclpaaaGreatDoor

namespace Go.Proofs.YtlnhcgihpclpaaaGreatDoor
set_option linter.all false
open Go.RowKit

/-- A statement's expressions, in the order in which they are worked out. -/
def exprsS (s : StT) : List PatT := if s.kind = 2 ∨ s.kind = 4 then [s.value] else if s.kind = 3 ∨ s.kind = 5 then [s.target, s.value] else []
theorem patAt_row {w : World} {S' : Nat → Prop} {g o : Nat} {p : PatT} {ka : Option Addr} {kc : Nat} (hg : S' g) (hz : p.text.size < 1000000000 ∧ p.name.size < 1000000000 ∧ p.kids.length < 1000000000)
    (h0 : w.cell? ⟨g, o, none⟩ = some (.int .i64 p.kind)) (h1 : w.cell? ⟨g, o + 1, none⟩ = some (.string p.text)) (h2 : w.cell? ⟨g, o + 2, none⟩ = some (.int .i64 p.n)) (h3 : w.cell? ⟨g, o + 3, none⟩ = some (.string p.name))
    (h4 : w.cell? ⟨g, o + 4, none⟩ = some (.slice ka p.kids.length kc)) (hk : PatsAt w S' ka p.kids) : PatAt w S' g o p := by
  obtain ⟨k, t, n, nm, kids⟩ := p
  unfold PatAt
  exact ⟨hg, hz, h0, h1, h2, h3, ka, kc, h4, hk⟩

end Go.Proofs.YtlnhcgihpclpaaaGreatDoor

namespace Go.Proofs.YtlnhcgihpclpaaaGreatDoor
set_option linter.all false
open Go.RowKit

section
variable {B n0 n1 n2 : Nat} {xs0 xs1 xs2 : List Value} {u0 u1 u2 : Value} {w w' : World}
theorem Ch.row {l : List Value} (hB : B ≤ w.heap.size) (hl : ∀ u ∈ l, True) (hz : l.length ≤ 1000) : Ch (w.alloc (.cells l.toArray 9)) B l.length l (.slice (some ⟨w.heap.size, 0, none⟩) l.length l.length) :=
  ⟨_, _, rfl, by simp, .inr ⟨w.heap.size, 0, l.length, l.toArray, rfl, hB, heap_alloc_new w _, Nat.le_refl _, by unfold maxLen; omega, by simp, by simp⟩⟩
end
end Go.Proofs.YtlnhcgihpclpaaaGreatDoor

namespace Go.Proofs.YtlnhcgihpclpaaaGreatDoor
set_option linter.all false
open Go.RowKit

/-- A function's own names: none is INPUT or OUTPUT, none is there twice. -/
def ownOkP (all : List ByteArray) : Prop := ∀ a (h : a < all.length), all[a].toList ≠ [73, 78, 80, 85, 84] ∧ all[a].toList ≠ [79, 85, 84, 80, 85, 84] ∧ ∀ b (hb : b < a), all[a] ≠ all[b]'(by omega)
def labelOk (l : List StT) (i : Nat) (s : StT) : Prop := s.label.size = 0 ∨ (keptF s.label = false ∧ labelF l s.label = i)
def funcOk (l : List StT) (i : Nat) (s : StT) : Prop := builtinF s.name < 0 ∧ funcF l s.name = i
def namedP (l : List StT) (i : Nat) (s : StT) : Prop := labelOk l i s ∧ (s.kind = 7 → funcOk l i s ∧ ownOkP (s.name :: s.params ++ s.locals))
end Go.Proofs.YtlnhcgihpclpaaaGreatDoor

namespace Go.Proofs.YtlnhcgihpclpaaaGreatDoor
set_option linter.all false
open Go.RowKit

def gotoBad (l : List StT) (n : ByteArray) : Prop := n.size ≠ 0 ∧ keptF n = false ∧ labelF l n < 0
instance (l : List StT) (n : ByteArray) : Decidable (gotoBad l n) := by unfold gotoBad; exact inferInstance
def goE (l : List StT) : List ByteArray → Int
  | [] => 0
  | n :: r => if gotoBad l n then 6 else goE l r
def gos (s : StT) : List ByteArray := [s.always, s.yes, s.noes]
/-- How many parameters the statement has at which a function is defined. -/
def paramsAt (l : List StT) (d : Int) : Nat := match l[d.toNat]? with | some t => t.params.length | none => 0
def callE (l : List StT) (x : PatT) : Int :=
  if x.kind ≠ 6 then 0
  else if 0 ≤ builtinF x.name ∧ builtinF x.name ≠ x.kids.length then 5
  else if builtinF x.name < 0 ∧ funcF l x.name < 0 then 7
  else if builtinF x.name < 0 ∧ paramsAt l (funcF l x.name) < x.kids.length then 5 else 0
def ndE (l : List StT) : List PatT → Int
  | [] => 0
  | y :: r => if callE l y = 0 then ndE l r else callE l y
def exE (l : List StT) : List PatT → Int
  | [] => 0
  | x :: r => if ndE l (allT x) = 0 then exE l r else ndE l (allT x)
def usesF (l : List StT) (s : StT) : Int := firstE [goE l (gos s), if s.kind = 7 ∧ labelF l s.entry < 0 then 6 else 0, exE l (exprsS s)]
theorem StB.hc {N : Nat} {a : StA} {s : StT} {w : World} (h : StB N a s w) : ∀ i (hi : i < 24), w.cell? ⟨N, 0 + i, none⟩ = some ((stCells a s)[i]'(by simpa [stCells] using hi)) := by
  intro i hi
  unfold StB at h
  rw [cell_of_row w N (0 + i) _ _ _ h, Nat.zero_add]
  show ((stCells a s).toArray)[i]? = _
  rw [List.getElem?_toArray, List.getElem?_eq_getElem (by simpa [stCells] using hi)]

end Go.Proofs.YtlnhcgihpclpaaaGreatDoor

namespace Go.Proofs.YtlnhcgihpclpaaaGreatDoor
set_option linter.all false
open Go.RowKit

def wrGo : Nat → List StT → Option (Int × Nat)
  | _, [] => none
  | i, s :: r => if wrongS s = 0 then wrGo (i + 1) r else some (wrongS s, i)
open Classical in
noncomputable def nmGo (l : List StT) : Nat → List StT → Option (Int × Nat)
  | _, [] => none
  | i, s :: r => if namedP l i s then nmGo l (i + 1) r else some (7, i)
def usGo (l : List StT) : Nat → List StT → Option (Int × Nat)
  | _, [] => none
  | i, s :: r => if usesF l s = 0 then usGo l (i + 1) r else some (usesF l s, i)
/-- The first thing that is wrong with a program. -/
noncomputable def checkF (l : List StT) : Int × Nat :=
  if 1000 < l.length then (5, 0) else ((wrGo 0 l).orElse fun _ => (nmGo l 0 l).orElse fun _ => usGo l 0 l).getD (0, 0)
def FaultQ (r : Int × Nat) (w : World) (e : Ending) (w' : World) : Prop := e = .returned (.agg #[.int .i64 r.1, .int .i64 (r.2 : Int)]) ∧ Kept Nix w w'
theorem ret_fault {f : Func} {tmps : Array Value} {r : Int × Nat} {w w2 : World} {N : Nat} {a b : Int} (hres : f.results = #[.cell 2 30]) (ht : tmps.getD 2 undef = .pointer (some ⟨N, 0, none⟩)) (hF : Fl N a b w2)
    (hr : (a, b) = (r.1, (r.2 : Int))) (K : Kept Nix w w2) : bodyPost Tryz.prog f (FaultQ r w) .ret ⟨tmps, []⟩ w2 := by
  obtain ⟨h0, h1, _, _⟩ := hF.cells
  simp only [Prod.mk.injEq] at hr
  obtain ⟨rfl, rfl⟩ := hr
  have ht' : tmps[2]?.getD undef = .pointer (some ⟨N, 0, none⟩) := by rw [← ht, Array.getD_eq_getD_getElem?]
  exact bodyPost_ret (v := .agg #[.int .i64 r.1, .int .i64 (r.2 : Int)]) (by simp [results, hres, go_sem, ht', h0, h1]) rfl ⟨rfl, K⟩
end Go.Proofs.YtlnhcgihpclpaaaGreatDoor

namespace Go.Proofs.YtlnhcgihpclpaaaGreatDoor
set_option linter.all false
open Go.RowKit

/-- What was wrong first, at block N. -/
def Fs (N : Nat) (r : Int × Int) (w : World) : Prop := w.heap[N]? = some (.cells #[.int .i64 r.1, .int .i64 r.2] 66 (0, 0))
theorem Fs.lt {N : Nat} {r : Int × Int} {w : World} (h : Fs N r w) : N < w.heap.size := (Array.getElem?_eq_some_iff.1 h).1
theorem Fs.kept {N : Nat} {r : Int × Int} {w w' : World} {X : Nat → Prop} (h : Fs N r w) (hk : Kept X w w') (hx : ¬ X N) : Fs N r w' := by
  unfold Fs; rw [hk.block N h.lt hx]; exact h
theorem Fs.cells {N : Nat} {r : Int × Int} {w : World} (h : Fs N r w) : w.cell? ⟨N, 0, none⟩ = some (.int .i64 r.1) ∧ w.cell? ⟨N, 1, none⟩ = some (.int .i64 r.2) ∧ w.frozen? ⟨N, 0, none⟩ = false ∧ w.frozen? ⟨N, 1, none⟩ = false := by
  unfold Fs at h
  exact ⟨by rw [cell_of_row w N _ _ _ _ h]; rfl, by rw [cell_of_row w N _ _ _ _ h]; rfl, by simp [World.frozen?, h], by simp [World.frozen?, h]⟩
theorem Fs.set {N : Nat} {r : Int × Int} {w : World} (h : Fs N r w) (c d : Int) : Fs N (c, d) ((w.setCell ⟨N, 0, none⟩ (.int .i64 c)).setCell ⟨N, 1, none⟩ (.int .i64 d)) := by
  unfold Fs at *
  simp [World.setCell, Array.getElem?_modify, h]
def sayF (r q : Int × Int) : Int × Int := if r.1 = 0 then q else r
def SayQ (N : Nat) (r : Int × Int) (w : World) (e : Ending) (w' : World) : Prop := e = .returned (.tuple #[]) ∧ Fs N r w' ∧ Kept (· = N) w w'
set_option maxRecDepth 100000 in
theorem say_any (N : Nat) (r : Int × Int) (err at_ : Int) (w : World) (h : Fs N r w) : Calls Tryz.prog 24 #[.pointer (some ⟨N, 0, none⟩), .int .i64 err, .int .i64 at_] w (SayQ N (sayF r (err, at_)) w) := by
  obtain ⟨a, b⟩ := r
  obtain ⟨f0, f1, f2, f3⟩ := h.cells
  have HF := Lib.hid h
  dsimp only at f0 f1
  clear h
  by_cases h0 : a = 0
  · have fin : Hid (sayF (a, b) (err, at_) = (err, at_)) := if_pos h0
    have e1 : (a == 0) = true := by simpa using h0
    clear h0
    go_enter Tryz.func24, Tryz.ntmps24
    go_wp2_with fail
    refine bodyPost_ret (v := .tuple #[]) (by simp [results, Tryz.results24, go_sem]) rfl ⟨rfl, by rw [fin.out]; exact HF.out.set err at_, ((Kept.refl (· = N) w).setCell (p := ⟨N, 0, none⟩) (.inl rfl) _).setCell (p := ⟨N, 1, none⟩) (.inl rfl) _⟩
  · have fin : Hid (sayF (a, b) (err, at_) = (a, b)) := if_neg h0
    have e1 : (a == 0) = false := by simpa using h0
    clear h0
    go_enter Tryz.func24, Tryz.ntmps24
    go_wp2_with fail
    refine bodyPost_ret (v := .tuple #[]) (by simp [results, Tryz.results24, go_sem]) rfl ⟨rfl, by rw [fin.out]; exact HF.out, Kept.refl _ _⟩

/-- Where a statement's expressions begin, in cells. -/
def partsO (k : Int) : List Nat := if k = 2 ∨ k = 4 then [7] else if k = 3 ∨ k = 5 then [2, 7] else []
/-- A row of pointers into block b. -/
def PtrRow (w : World) (a : Option Addr) (B b o : Nat) (l : List Nat) : Prop := 0 < l.length → ∃ g, a = some ⟨g, 0, none⟩ ∧ B ≤ g ∧ g < w.heap.size ∧ ∀ i (h : i < l.length), w.cell? ⟨g, i, none⟩ = some (.pointer (some ⟨b, o + l[i], none⟩))
def PartsQ (k : Int) (b o : Nat) (w : World) (e : Ending) (w' : World) : Prop := ∃ a, e = .returned (.slice a (partsO k).length (partsO k).length) ∧ PtrRow w' a w.heap.size b o (partsO k) ∧ Kept Nix w w'
set_option maxRecDepth 100000 in
set_option maxHeartbeats 1000000 in
theorem parts_any (k : Int) (b o : Nat) (w : World) (h1 : w.cell? ⟨b, o + 1, none⟩ = some (.int .i64 k)) : Calls Tryz.prog 31 #[.pointer (some ⟨b, o, none⟩)] w (PartsQ k b o w) := by
  by_cases h24 : k = 2 ∨ k = 4
  · have fin : Hid (partsO k = [7]) := if_pos h24
    have P2 : Hid (PtrRow (w.alloc (.cells #[.pointer (some ⟨b, o + 7, none⟩)] 81)) (some ⟨w.heap.size, 0, none⟩) w.heap.size b o [7]) := fun _ => ⟨_, rfl, Nat.le_refl _, by simp, fun i hi => by
      obtain rfl : i = 0 := by simpa using hi
      simp⟩
    rcases h24 with rfl | rfl
    all_goals
      go_enter Tryz.func31, Tryz.ntmps31
      go_wp2_with fail
      go_ret
      exact ⟨some ⟨w.heap.size, 0, none⟩, by rw [fin.out]; rfl, by rw [fin.out]; exact P2.out, (Kept.refl _ _).alloc _⟩
  by_cases h35 : k = 3 ∨ k = 5
  · have fin : Hid (partsO k = [2, 7]) := by unfold Hid partsO; rw [if_neg h24, if_pos h35]
    have P2 : Hid (∀ w' : World, w'.heap = w.heap → PtrRow (w'.alloc (.cells #[.pointer (some ⟨b, o + 2, none⟩), .pointer (some ⟨b, o + 7, none⟩)] 81)) (some ⟨w.heap.size, 0, none⟩) w.heap.size b o [2, 7]) := fun w' hw _ => ⟨_, rfl, Nat.le_refl _, by simp [hw], fun i hi => by
      rcases (show i = 0 ∨ i = 1 by simp at hi; omega) with rfl | rfl <;> (rw [← hw]; simp)⟩
    clear h24
    rcases h35 with rfl | rfl
    all_goals
      go_enter Tryz.func31, Tryz.ntmps31
      go_wp2_with fail
      go_region
      go_wp2_with fail
      go_ret
      exact ⟨some ⟨w.heap.size, 0, none⟩, by rw [fin.out]; rfl, by rw [fin.out]; exact P2.out _ rfl, (Kept.refl _ _).drew.alloc _⟩
  · have fin : Hid (partsO k = []) := by unfold Hid partsO; rw [if_neg h24, if_neg h35]
    have z1 : (k == 2) = false := by simp; omega
    have z2 : (k == 4) = false := by simp; omega
    have z3 : (k == 3) = false := by simp; omega
    have z4 : (k == 5) = false := by simp; omega
    clear h24 h35
    go_enter Tryz.func31, Tryz.ntmps31
    go_wp2_with fail
    go_ret
    exact ⟨none, by rw [fin.out]; rfl, by rw [fin.out]; exact fun h => by simp at h, Kept.refl _ _⟩
end Go.Proofs.YtlnhcgihpclpaaaGreatDoor

namespace Go.Proofs.YtlnhcgihpclpaaaGreatDoor
set_option linter.all false
open Go.RowKit Go.Maps Go.WideMaps

def TabT (w : World) (T B1 B2 : Nat) : Prop := w.heap[T]? = some (.cells #[.map (some B1), .map (some B2)] 71 (0, 0))
theorem TabT.lt {w : World} {T B1 B2 : Nat} (h : TabT w T B1 B2) : T < w.heap.size := (Array.getElem?_eq_some_iff.1 h).1
theorem TabT.kept {w w' : World} {T B1 B2 : Nat} {X : Nat → Prop} (h : TabT w T B1 B2) (hk : Kept X w w') (hx : ¬ X T) : TabT w' T B1 B2 := by
  unfold TabT; rw [hk.block T h.lt hx]; exact h
theorem TabT.cells {w : World} {T B1 B2 : Nat} (h : TabT w T B1 B2) : w.cell? ⟨T, 0, none⟩ = some (.map (some B1)) ∧ w.cell? ⟨T, 1, none⟩ = some (.map (some B2)) := by
  unfold TabT at h
  exact ⟨by rw [cell_of_row w T _ _ _ _ h]; rfl, by rw [cell_of_row w T _ _ _ _ h]; rfl⟩
theorem MapF.look_ok {w : World} {B n : Nat} {m : ByteArray → Option Int} (h : MapF w B n m) (s : ByteArray) (hs : s.size ≤ maxLen) :
    (Instr.lookup 69 (.map (some B)) (.string s) true).run Tryz.prog w = .ok (.tuple #[.int .i64 ((m s).getD 0), .bool (m s).isSome]) w := by
  obtain ⟨D, hown, hmap, hD⟩ := h
  obtain ⟨v, ps, hrun, hv⟩ := hown.look_ok mapLaw Tryz.underlying69 (zeroInt w) (plainElem_int (H := Unit) (a := 0) Tryz.underlying3 (by decide)) (keyOf_string_mk Tryz.underlying9 hs)
  obtain ⟨c, rfl, hc, _⟩ := plainElem_int_inv Tryz.underlying3 hv
  obtain ⟨h1, h2⟩ := hD s
  have hat := congrArg Prod.fst hc
  rw [hrun, h1]
  cases hms : m s with
  | none => rw [h2, hms] at hat; simp only [DataW.lit.injEq, Lit.int.injEq, true_and] at hat; subst hat; rfl
  | some d => rw [h2, hms] at hat; simp only [DataW.lit.injEq, Lit.int.injEq, true_and] at hat; subst hat; rfl
theorem MapF.drewN {w : World} {B n : Nat} {m : ByteArray → Option Int} (h : MapF w B n m) (k : Nat) : MapF (w.drewN k) B n m := h.kept ((Kept.refl Nix w).drewN k) (fun h => h)

/-- What is wrong with a node's call. -/
def callS (m : ByteArray → Option Int) (l : List StT) (x : PatT) : Int :=
  if x.kind ≠ 6 then 0
  else if 0 ≤ builtinF x.name ∧ builtinF x.name ≠ x.kids.length then 5
  else if builtinF x.name < 0 ∧ (m x.name).isSome = false then 7
  else if builtinF x.name < 0 ∧ paramsAt l ((m x.name).getD 0) < x.kids.length then 5 else 0
def sayE (r : Int × Int) (e at_ : Int) : Int × Int := if e = 0 then r else sayF r (e, at_)
mutual
def callsR (m : ByteArray → Option Int) (l : List StT) (at_ : Int) : PatT → Int × Int → Int × Int
  | .mk k t n nm kids, r => callsL m l at_ kids (sayE r (callS m l (.mk k t n nm kids)) at_)
def callsL (m : ByteArray → Option Int) (l : List StT) (at_ : Int) : List PatT → Int × Int → Int × Int
  | [], r => r
  | x :: q, r => callsL m l at_ q (callsR m l at_ x r)
end
theorem callsL_drop (m : ByteArray → Option Int) (l : List StT) (at_ : Int) (q : List PatT) (j : Nat) (h : j < q.length) (r : Int × Int) : callsL m l at_ (q.drop j) r = callsL m l at_ (q.drop (j + 1)) (callsR m l at_ q[j] r) := by
  rw [List.drop_eq_getElem_cons h, callsL]

set_option maxRecDepth 100000 in
set_option maxHeartbeats 8000000 in
theorem calls_any (T B1 B2 n2 N : Nat) (mF : ByteArray → Option Int) (l : List StT) (al : Option Addr) (cl : Nat) (S : Nat → Prop) (at_ : Int) (hmF : ∀ s d, mF s = some d → ∃ k : Nat, d = k ∧ k < l.length) (hTN : T ≠ N) (hBN : B2 ≠ N) (hlen : l.length ≤ 1048576) :
    ∀ (m : Nat) (x : PatT) (b o : Nat) (r : Int × Int) (w : World), sizeT x ≤ m → PatAt w S b o x → StsAt w S al l → Safe S (· = N) w.heap.size → TabT w T B1 B2 → MapF w B2 n2 mF → Fs N r w →
    Calls Tryz.prog 32 #[.pointer (some ⟨T, 0, none⟩), .slice al l.length cl, .pointer (some ⟨b, o, none⟩), .int .i64 at_, .pointer (some ⟨N, 0, none⟩)] w (SayQ N (callsR mF l at_ x r) w) := by
  intro m
  induction m with
  | zero => intro x b o r w hm; have := sizeT_pos x; omega
  | succ m ih =>
  intro x b o r w hm hp hl hS hT hM hF
  obtain ⟨k, t, n, nm, kids⟩ := x
  have hih : ∀ (j : Nat) (hj : j < kids.length) (b o : Nat) (r : Int × Int) (w : World), PatAt w S b o kids[j] → StsAt w S al l → Safe S (· = N) w.heap.size → TabT w T B1 B2 → MapF w B2 n2 mF → Fs N r w →
      Calls Tryz.prog 32 #[.pointer (some ⟨T, 0, none⟩), .slice al l.length cl, .pointer (some ⟨b, o, none⟩), .int .i64 at_, .pointer (some ⟨N, 0, none⟩)] w (SayQ N (callsR mF l at_ kids[j] r) w) :=
    fun j hj b o r w h1 h2 h3 h4 h5 h6 => ih kids[j] b o r w (by have := sizeT_get kids j hj; simp only [sizeT] at hm; omega) h1 h2 h3 h4 h5 h6
  have HP := Lib.hid hp
  unfold PatAt at hp
  obtain ⟨_, ⟨_, hnz, hkl⟩, q0, _, _, q3, ka, cap, q4, _⟩ := hp
  have hnl : nm.size ≤ maxLen := by unfold maxLen; omega
  have HIH := Lib.hid hih; have HL := Lib.hid hl; have HS := Lib.hid hS; have HT := Lib.hid hT; have HM := Lib.hid hM; have HF := Lib.hid hF; have HMF := Lib.hid hmF
  have hr : Hid (callsR mF l at_ (.mk k t n nm kids) r = callsL mF l at_ kids (sayE r (callS mF l (.mk k t n nm kids)) at_)) := by unfold Hid; rw [callsR]
  obtain ⟨x0, x1⟩ := HT.out.cells
  have hlook : ∀ i, (Instr.lookup 69 (.map (some B2)) (.string nm) true).run Tryz.prog (w.drewN i) = .ok (.tuple #[.int .i64 ((mF nm).getD 0), .bool (mF nm).isSome]) (w.drewN i) := fun i => (HM.out.drewN i).look_ok nm hnl
  clear hih ih hm hl hS hT hM hF
  go_enter Tryz.func32, Tryz.ntmps32
  go_upto_if 18 with fail
  go_cut [18] (fun c wx => Fs N (sayE r (callS mF l (.mk k t n nm kids)) at_) wx ∧ Kept (· = N) w wx)
  case first =>
    by_cases h6 : k = 6
    · have z1 : (k == 6) = true := by simpa using h6
      go_wp2_with fail
      go_quiet (fail)
      go_wp2_with fail
      refine (builtin_any nm _).mono ?_
      rintro e w' ⟨rfl, rfl⟩
      have hcs : Hid (callS mF l (.mk k t n nm kids) = if 0 ≤ builtinF nm ∧ builtinF nm ≠ kids.length then 5 else if builtinF nm < 0 ∧ (mF nm).isSome = false then 7 else if builtinF nm < 0 ∧ paramsAt l ((mF nm).getD 0) < kids.length then 5 else 0) := by
        exact if_neg (fun h => h h6)
      have hrg : -1 ≤ builtinF nm ∧ builtinF nm ≤ 3 := by unfold builtinF; split <;> (try split) <;> (try split) <;> omega
      have HFq : Hid (Fs N r (w.drewN nq)) := HF.out.kept ((Kept.refl Nix w).drewN nq) (fun h => h)
      have KQ : Hid (Kept (· = N) w (w.drewN nq)) := (Kept.refl (· = N) w).drewN nq
      generalize hcl : callS mF l (.mk k t n nm kids) = ce at *
      generalize hbn : builtinF nm = bn at *
      clear hbn h6 hlook hr hcl
      by_cases hn : 0 ≤ bn
      · have e1 : decide (0 ≤ bn) = true := decide_eq_true hn
        have e3 : decide (bn < 0) = false := decide_eq_false (by omega)
        by_cases hne : bn = (kids.length : Int)
        · have e2 : (bn != (kids.length : Int)) = false := by simpa using hne
          have fin : Hid (ce = 0) := by unfold Hid; rw [hcs.out, if_neg (fun h => h.2 hne), if_neg (by omega), if_neg (by omega)]
          clear hne hn
          go_wp2_with fail
          go_quiet (fail)
          go_wp2_with fail
          go_meet
          exact ⟨by rw [fin.out]; exact HFq.out.kept ((Kept.refl Nix _).drewN _) (fun h => h), KQ.out.drewN _⟩
        · have e2 : (bn != (kids.length : Int)) = true := by simpa using hne
          have fin : Hid (ce = 5) := by unfold Hid; rw [hcs.out, if_pos ⟨hn, hne⟩]
          clear hne hn
          go_wp2_with (go_at_call 24; (with_reducible refine (say_any N r 5 at_ _ HFq.out).mono ?_); rintro e w3 ⟨rfl, f3_, k3_⟩; have F3 := Lib.hid f3_; have K3 := Lib.hid (KQ.out.trans k3_); clear f3_ k3_)
          go_meet
          exact ⟨by rw [fin.out]; exact F3.out, K3.out⟩
      have e1 : decide (0 ≤ bn) = false := decide_eq_false hn
      have e3 : decide (bn < 0) = true := decide_eq_true (by omega)
      cases hm : mF nm with
      | none =>
        have fin : Hid (ce = 7) := by unfold Hid; rw [hcs.out, if_neg (fun h => hn h.1), if_pos ⟨by omega, by rw [hm]; rfl⟩]
        clear hn
        dsimp only [Option.isSome, Option.getD]
        go_wp2_with (go_at_call 24; (with_reducible refine (say_any N r 7 at_ _ HFq.out).mono ?_); rintro e w3 ⟨rfl, f3_, k3_⟩; have F3 := Lib.hid f3_; have K3 := Lib.hid (KQ.out.trans k3_); clear f3_ k3_)
        go_meet
        exact ⟨by rw [fin.out]; exact F3.out, K3.out⟩
      | some d =>
        obtain ⟨dn, rfl, hdn⟩ := HMF.out nm d hm
        obtain ⟨bl, ol, rfl, hcl⟩ := HL.out (by omega)
        obtain ⟨ad, _, hzd, hcd, _⟩ := hcl dn hdn
        have x19 := hcd 19 (by decide)
        have hpl : paramsAt l ((dn : Nat) : Int) = l[dn].params.length := by unfold paramsAt; rw [Int.toNat_natCast, List.getElem?_eq_getElem hdn]
        have hpz := hzd.params.1
        have x19' : _ = some (Value.slice ad.ma l[dn].params.length ad.mc) := x19
        have hcs' : Hid (ce = if l[dn].params.length < kids.length then 5 else 0) := by
          have h1 := hcs.out
          rw [if_neg (fun h => hn h.1), if_neg (fun h => by have h2 := h.2; rw [hm] at h2; cases h2)] at h1
          unfold Hid
          rw [h1]
          simp only [hm, Option.getD, hpl]
          by_cases hq : l[dn].params.length < kids.length
          · rw [if_pos ⟨by omega, hq⟩, if_pos hq]
          · rw [if_neg (fun h => hq h.2), if_neg hq]
        clear hcl hcd hzd x19 hpl hcs
        generalize l[dn].params.length = pl at *
        dsimp only [Option.isSome, Option.getD]
        by_cases hq : pl < kids.length
        · have e4 : decide ((pl : Int) < (kids.length : Int)) = true := decide_eq_true (by omega)
          have e5 : decide (pl < kids.length) = true := decide_eq_true hq
          have fin : Hid (ce = 5) := hcs'.out.trans (if_pos hq)
          clear hn hq
          go_wp2_with fail
          go_quiet (fail)
          go_wp2_with (go_at_call 24; (refine (say_any N r 5 at_ _ (HF.out.kept ((Kept.refl Nix w).drewN _) (fun h => h))).mono ?_); rintro e w3 ⟨rfl, f3_, k3_⟩; have F3 := Lib.hid f3_; have K3 := Lib.hid (((Kept.refl (· = N) w).drewN _).trans k3_); clear f3_ k3_)
          go_meet
          exact ⟨by rw [fin.out]; exact F3.out, K3.out⟩
        · have e4 : decide ((pl : Int) < (kids.length : Int)) = false := decide_eq_false (by omega)
          have e5 : decide (pl < kids.length) = false := decide_eq_false hq
          have fin : Hid (ce = 0) := hcs'.out.trans (if_neg hq)
          clear hn hq
          go_wp2_with fail
          go_quiet (fail)
          go_wp2_with fail
          go_meet
          exact ⟨by rw [fin.out]; exact HFq.out.kept ((Kept.refl Nix _).drewN _) (fun h => h), KQ.out.drewN _⟩
    · have z1 : (k == 6) = false := by simpa using h6
      have fin : Hid (callS mF l (.mk k t n nm kids) = 0) := if_pos h6
      clear h6 hlook
      go_wp2_with fail
      go_meet
      exact ⟨by rw [fin.out]; exact HF.out, Kept.refl _ _⟩
  case rest =>
    obtain ⟨hF1, hk1⟩ := hcut
    have F1 := Lib.hid hF1; have K1 := Lib.hid hk1
    have hp1 := HP.out.kept hk1 HS.out
    unfold PatAt at hp1
    obtain ⟨_, _, _, _, _, _, ka1, cap1, q41, _⟩ := hp1
    clear hF1 hk1 q0 q3 q4 x0 x1 hlook HF
    go_wp2_with fail
    go_loopw [86] (fun i wr => ∃ (j : Nat) (r2 : Int × Int), j ≤ kids.length ∧ i = .int .i64 j ∧ Hid (callsR mF l at_ (.mk k t n nm kids) r = callsL mF l at_ (kids.drop j) r2) ∧ Fs N r2 wr ∧ Kept (· = N) w wr) (fun i _ => kids.length - (intOf i).toNat)
    case atStart => exact ⟨0, _, Nat.zero_le _, rfl, by unfold Hid; rw [hr.out, List.drop_zero], F1.out, K1.out⟩
    case round =>
      obtain ⟨j, r2, hj, rfl, hno, hf2, hkw⟩ := hrel
      have KW := Lib.hid hkw; have F2 := Lib.hid hf2
      by_cases hlt : j < kids.length
      · have hp2 := HP.out.kept hkw HS.out
        unfold PatAt at hp2
        obtain ⟨_, _, _, _, _, _, ka2, cap2, q42, hks⟩ := hp2
        obtain ⟨b1, o1, rfl⟩ := PatsAt_head hks (by omega)
        have HK2 := Lib.hid (PatsAt_get kids b1 o1 j hlt hks)
        have step := Lib.hid (hno.out.trans (callsL_drop mF l at_ kids j hlt r2))
        have L2 := Lib.hid (HL.out.to hkw HS.out (fun _ h => h)); have S2 := Lib.hid (HS.out.mono hkw.size); have T2 := Lib.hid (HT.out.kept hkw hTN); have M2 := Lib.hid (HM.out.kept hkw hBN)
        clear hks hkw hf2
        go_wp2_with fail
        refine (HIH.out j hlt b1 (o1 + j * 5) r2 _ HK2.out L2.out S2.out T2.out M2.out F2.out).mono ?_
        rintro e w3 ⟨rfl, f3_, k3_⟩
        have F3 := Lib.hid f3_; have K3 := Lib.hid (KW.out.trans k3_)
        clear f3_ k3_
        go_wp2_with fail
        go_roundw
        case rel => exact ⟨j + 1, _, by omega, by go_num, step, F3.out, K3.out⟩
        case measure => simp [intOf]; omega
      · obtain rfl : j = kids.length := by omega
        have fin : Hid (callsR mF l at_ (.mk k t n nm kids) r = r2) := by unfold Hid; rw [hno.out, List.drop_length, callsL]
        go_wp2_with fail
        refine bodyPost_ret (v := .tuple #[]) (by simp [results, Tryz.results32, go_sem]) rfl ⟨rfl, by rw [fin.out]; exact F2.out, KW.out⟩
end Go.Proofs.YtlnhcgihpclpaaaGreatDoor

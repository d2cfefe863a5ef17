/- Plain: the size of a pattern by a queue is its size by a walk. The reference of chapter 4: Size, by a queue. The reference of chapter 4: Wrong. -/
import Derived.Test.YtcfcdobgpldoiaaGreatDoorLaw4
import Derived.Test.YtcfcdobgpldoiaaGreatDoorRef4c
import Derived.Deep.LoopGhost
import Derived.Test.YtcfcdobgpldoiaaGreatDoorRef4b
namespace Go.Proofs.YtcfcdobgpldoiaaGreatDoor
set_option linter.all false
open Go.RowKit

/-- Size by a queue of patterns with their depths; none: too large. -/
def qF : Nat → List (PatT × Nat) → Nat → Nat → Option (Nat × Nat)
  | _, [], n, d => some (n, d)
  | 0, _ :: _, _, _ => none
  | f + 1, x :: r, n, d => if 4096 < n + 1 ∨ 200 < max d x.2 then none else qF f (r ++ x.1.kids.map fun k => (k, x.2 + 1)) (n + 1) (max d x.2)
def qsize : List (PatT × Nat) → Nat
  | [] => 0
  | x :: r => sizeT x.1 + qsize r
theorem qsize_append : ∀ (a b : List (PatT × Nat)), qsize (a ++ b) = qsize a + qsize b
  | [], b => by simp [qsize]
  | x :: r, b => by simp only [List.cons_append, qsize, qsize_append r b]; omega
theorem qsize_kids (l : List PatT) (d : Nat) : qsize (l.map fun k => (k, d)) = sizeL l := by
  induction l with
  | nil => rfl
  | cons p ps ih => simp only [List.map_cons, qsize, sizeL, ih]
theorem length_le_qsize : ∀ q : List (PatT × Nat), q.length ≤ qsize q
  | [] => Nat.le_refl _
  | x :: r => by have := sizeT_pos x.1; have := length_le_qsize r; simp only [List.length_cons, qsize]; omega


def qdep : List (PatT × Nat) → Nat
  | [] => 0
  | x :: r => max (x.2 + depthT x.1 - 1) (qdep r)
theorem qdep_append : ∀ (a b : List (PatT × Nat)), qdep (a ++ b) = max (qdep a) (qdep b)
  | [], b => by simp [qdep]
  | x :: r, b => by simp only [List.cons_append, qdep, qdep_append r b]; omega
theorem qdep_kids : ∀ (l : List PatT) (d : Nat), qdep (l.map fun k => (k, d + 1)) = if l = [] then 0 else d + depthL l
  | [], d => rfl
  | [p], d => by
    have hp := depthT_pos p
    rw [if_neg (by simp)]; simp only [List.map_cons, List.map_nil, qdep, depthL]; omega
  | p :: q :: qs, d => by
    have hp := depthT_pos p
    have ih := qdep_kids (q :: qs) d
    rw [if_neg (by simp)] at ih ⊢
    have e : depthL (p :: q :: qs) = max (depthT p) (depthL (q :: qs)) := by rw [depthL]
    rw [List.map_cons, qdep, ih, e]; dsimp only; omega
theorem sizeT_eq (p : PatT) : sizeT p = 1 + sizeL p.kids := by cases p; rw [sizeT, PatT.kids_mk]
theorem depthT_eq (p : PatT) : depthT p = 1 + depthL p.kids := by cases p; rw [depthT, PatT.kids_mk]
theorem qF_eq : ∀ (f : Nat) (q : List (PatT × Nat)) (n d : Nat), qsize q ≤ f → n ≤ 4096 → d ≤ 200 →
    qF f q n d = if n + qsize q ≤ 4096 ∧ max d (qdep q) ≤ 200 then some (n + qsize q, max d (qdep q)) else none
  | f, [], n, d, _, hn, hd => by
    have e : qF f [] n d = some (n, d) := by cases f <;> rfl
    rw [e, if_pos (by simp only [qsize, qdep]; omega)]; simp [qsize, qdep]
  | 0, x :: r, n, d, hf, hn, hd => by have := sizeT_pos x.1; rw [qsize] at hf; omega
  | f + 1, x :: r, n, d, hf, hn, hd => by
    have hs := sizeT_pos x.1
    have hdp := depthT_pos x.1
    have es := sizeT_eq x.1
    have ed := depthT_eq x.1
    rw [qsize] at hf
    rw [qF]
    by_cases hb : 4096 < n + 1 ∨ 200 < max d x.2
    · rw [if_pos hb, if_neg (by rw [qsize, qdep]; omega)]
    · rw [if_neg hb, qF_eq f _ (n + 1) (max d x.2) (by rw [qsize_append, qsize_kids]; omega) (by omega) (by omega), qsize_append, qsize_kids, qdep_append, qdep_kids]
      have e1 : n + 1 + (qsize r + sizeL x.1.kids) = n + qsize (x :: r) := by rw [qsize]; omega
      have e2 : max (max d x.2) (max (qdep r) (if x.1.kids = [] then 0 else x.2 + depthL x.1.kids)) = max d (qdep (x :: r)) := by
        rw [qdep]
        by_cases hk : x.1.kids = []
        · rw [if_pos hk]; rw [hk, depthL] at ed; omega
        · rw [if_neg hk]; omega
      rw [e1, e2]
theorem qF_fits (p : PatT) : qF (sizeT p) [(p, 1)] 0 0 = if fits p then some (sizeT p, depthT p) else none := by
  have hd := depthT_pos p
  rw [qF_eq _ _ 0 0 (by simp [qsize]) (by omega) (by omega)]
  have e1 : 0 + qsize [(p, 1)] = sizeT p := by simp [qsize]
  have e2 : max 0 (qdep [(p, 1)]) = depthT p := by simp only [qdep]; omega
  rw [e1, e2]; rfl
mutual
theorem kids_fit : ∀ (p : PatT) (x : PatT), x ∈ allT p → x.kids.length < sizeT p
  | .mk k t n nm kids, x, hx => by
    rw [allT] at hx; rw [sizeT]
    rcases List.mem_cons.1 hx with rfl | hx
    · rw [PatT.kids_mk]; have := length_le_sizeL kids; omega
    · have := kidsL_fit kids x hx; omega
theorem kidsL_fit : ∀ (l : List PatT) (x : PatT), x ∈ allL l → x.kids.length < sizeL l
  | [], x, hx => by simp [allL] at hx
  | p :: ps, x, hx => by
    rw [allL] at hx; rw [sizeL]
    rcases List.mem_append.1 hx with h | h
    · have := kids_fit p x h; omega
    · have := kidsL_fit ps x h; omega
end
end Go.Proofs.YtcfcdobgpldoiaaGreatDoor

namespace Go.Proofs.YtcfcdobgpldoiaaGreatDoor
set_option linter.all false
open Go.RowKit

theorem Tryz.infoOne : (Tryz.prog.info? 89).map (fun i => (i.zero, i.size, i.bytes)) = some (some (.agg #[.int .i64 0, .string ⟨#[]⟩, .int .i64 0, .string ⟨#[]⟩, .slice none 0 0, .int .i64 0]), 6, 80) := by kernel_rfl

/-- Six cells that are a pattern's node with its depth. -/
def Node6 (w : World) (S : Nat → Prop) (c : List Value) (x : PatT × Nat) : Prop := ∃ c5, c = c5 ++ [.int .i64 x.2] ∧ Node5 w S c5 x.1
def Row6 (w : World) (S : Nat → Prop) : List Value → List (PatT × Nat) → Prop
  | cs, [] => cs = []
  | cs, p :: ps => ∃ c rest, cs = c ++ rest ∧ Node6 w S c p ∧ Row6 w S rest ps
theorem Node6.length {w : World} {S : Nat → Prop} {c : List Value} {p : PatT × Nat} (h : Node6 w S c p) : c.length = 6 := by obtain ⟨_, rfl, h⟩ := h; rw [List.length_append, h.length]; rfl
theorem Row6.length {w : World} {S : Nat → Prop} : ∀ {l : List (PatT × Nat)} {cs : List Value}, Row6 w S cs l → cs.length = l.length * 6
  | [], cs, h => by rw [Row6] at h; subst h; rfl
  | p :: ps, cs, h => by
    rw [Row6] at h; obtain ⟨c, r, rfl, h1, h2⟩ := h
    rw [List.length_append, h1.length, h2.length, List.length_cons]; omega
theorem Row6.append {w : World} {S : Nat → Prop} : ∀ {l l' : List (PatT × Nat)} {cs cs' : List Value}, Row6 w S cs l → Row6 w S cs' l' → Row6 w S (cs ++ cs') (l ++ l')
  | [], _, cs, _, h, h' => by rw [Row6] at h; subst h; exact h'
  | p :: ps, _, cs, _, h, h' => by
    rw [Row6] at h; obtain ⟨c, r, rfl, h1, h2⟩ := h
    rw [List.append_assoc, List.cons_append, Row6]
    exact ⟨c, _, rfl, h1, h2.append h'⟩
theorem Row6.kept {w w' : World} {S : Nat → Prop} {X : Nat → Prop} : ∀ {l : List (PatT × Nat)} {cs : List Value}, Row6 w S cs l → Kept X w w' → Safe S X w.heap.size → Row6 w' S cs l
  | [], _, h, _, _ => h
  | p :: ps, cs, h, hk, hs => by
    rw [Row6] at h ⊢; obtain ⟨c, r, rfl, ⟨c5, rfl, h1⟩, h2⟩ := h
    exact ⟨_, r, rfl, ⟨c5, rfl, h1.kept hk hs⟩, h2.kept hk hs⟩

def refSizeR : Option (Nat × Nat) → Value
  | some (n, d) => .tuple #[.int .i64 n, .int .i64 d, .bool true]
  | none => .tuple #[.int .i64 0, .int .i64 0, .bool false]

set_option maxRecDepth 100000 in
set_option maxHeartbeats 2000000 in
theorem refSize_core (res : Option (Nat × Nat)) (p : PatT) (hres : qF (sizeT p) [(p, 1)] 0 0 = res) (v : Value) (S : Nat → Prop) (w : World) (hm : sizeT p ≤ 100000000) (hp : PatV w S v p) (hS : Safe S Nix w.heap.size) :
    Calls Tryz.prog 38 #[v] w (fun e w' => e = .returned (refSizeR res) ∧ Kept Nix w w') := by
  obtain ⟨k, t, n, nm, kids⟩ := p
  obtain ⟨ka, cap, rfl, hz, hk⟩ := hp
  dsimp only [PatT.kind_mk, PatT.text_mk, PatT.n_mk, PatT.name_mk, PatT.kids_mk] at hz hk ⊢
  have Hres0 := Lib.hid hres; clear hres
  obtain ⟨i0, hi, hz0, hz1, hz2⟩ := info_parts Tryz.infoOne
  go_enter Tryz.func38, Tryz.ntmps38
  go_wp2_with fail
  have K0 : Kept Nix w ((w.alloc (.cells #[.int .i64 k, .string t, .int .i64 n, .string nm, .slice ka kids.length cap] 30)).alloc (.cells #[.int .i64 k, .string t, .int .i64 n, .string nm, .slice ka kids.length cap, .int .i64 1] 89)) := ((Kept.refl _ _).alloc _).alloc _
  have W0 : Win ((w.alloc (.cells #[.int .i64 k, .string t, .int .i64 n, .string nm, .slice ka kids.length cap] 30)).alloc (.cells #[.int .i64 k, .string t, .int .i64 n, .string nm, .slice ka kids.length cap, .int .i64 1] 89)) w.heap.size 89 6
      (.slice (some ⟨w.heap.size + 1, 0, none⟩) 1 1) 1 [.int .i64 k, .string t, .int .i64 n, .string nm, .slice ka kids.length cap, .int .i64 1] :=
    ⟨rfl, .inr ⟨w.heap.size + 1, 0, 1, _, rfl, by omega, by have := heap_alloc_new (w.alloc (.cells #[.int .i64 k, .string t, .int .i64 n, .string nm, .slice ka kids.length cap] 30)) (.cells #[.int .i64 k, .string t, .int .i64 n, .string nm, .slice ka kids.length cap, .int .i64 1] 89); simpa using this, Nat.le_refl _, by decide, by simp, by simp⟩⟩
  have R0 : Row6 ((w.alloc (.cells #[.int .i64 k, .string t, .int .i64 n, .string nm, .slice ka kids.length cap] 30)).alloc (.cells #[.int .i64 k, .string t, .int .i64 n, .string nm, .slice ka kids.length cap, .int .i64 1] 89)) S [.int .i64 k, .string t, .int .i64 n, .string nm, .slice ka kids.length cap, .int .i64 1] [(.mk k t n nm kids, 1)] := by
    rw [Row6]; exact ⟨_, [], (List.append_nil _).symm, ⟨_, rfl, ka, cap, rfl, hz, hk.kept K0 hS⟩, rfl⟩
  generalize ((w.alloc (.cells #[.int .i64 k, .string t, .int .i64 n, .string nm, .slice ka kids.length cap] 30)).alloc (.cells #[.int .i64 k, .string t, .int .i64 n, .string nm, .slice ka kids.length cap, .int .i64 1] 89)) = w0 at K0 W0 R0 ⊢
  generalize hP : (PatT.mk k t n nm kids) = P at *
  have Hres := Hres0
  clear hP hk hz Hres0
  go_loopg [5, 6, 7] (sizeT P) (fun f v nv dv wr => ∃ (q : List (PatT × Nat)) (cs : List Value) (a : Option Addr) (c n d : Nat), v = .slice a q.length c ∧ nv = .int .i64 n ∧ dv = .int .i64 d ∧ Win wr w.heap.size 89 6 v q.length cs ∧ Row6 wr S cs q ∧ Kept Nix w wr ∧
      f = qsize q ∧ n ≤ 4096 ∧ d ≤ 200 ∧ f ≤ 100000000 ∧ Hid (qF f q n d = res) ∧ Hid (∀ x ∈ q, x.2 ≤ 201))
  case atStart => exact ⟨[(P, 1)], _, _, _, 0, 0, rfl, rfl, rfl, W0, R0, K0, by simp [qsize], by omega, by omega, hm, Hres.out, by intro x hx; simp at hx; subst hx; simp⟩
  case round =>
    obtain ⟨q, cs, a, c, nn, d, rfl, rfl, rfl, hW, hR, hK, hf, hn, hd, hb, hq, hx⟩ := hrel
    obtain ⟨wo, rfl⟩ : ∃ wo : World, wo = wr := ⟨_, rfl⟩
    cases q with
    | nil =>
      have fin : Hid (refSizeR res = .tuple #[.int .i64 nn, .int .i64 d, .bool true]) := by
        unfold Hid; rw [← hq.out]; cases gk <;> rfl
      clear hq hx hW hR hf
      go_wp2_with fail
      go_ret3
      exact ⟨by rw [fin.out]; rfl, hK⟩
    | cons x r =>
      rw [Row6] at hR
      obtain ⟨c0, rest, rfl, hN, hR⟩ := hR
      obtain ⟨c5, rfl, ⟨ka', cap', rfl, hz', hkk⟩⟩ := hN
      rcases hW.cells with ⟨_, h0⟩ | ⟨g, o, cp, hv, hg1, hg2, hc1, hc2, hcells⟩
      · simp at h0
      simp only [Value.slice.injEq, true_and] at hv
      obtain ⟨rfl, rfl⟩ := hv
      have p0 := (hcells 0 _ rfl).1; have p1 := (hcells 1 _ rfl).1; have p2 := (hcells 2 _ rfl).1; have p3 := (hcells 3 _ rfl).1; have p4 := (hcells 4 _ rfl).1; have p5 := (hcells 5 _ rfl).1
      have hx2 : x.2 ≤ 201 := hx.out x (by simp)
      have hW1 := Win.tail (n := r.length) hW rfl
      rw [Nat.add_zero] at p0
      have HF := Lib.hid hf; have HW1 := Lib.hid hW1; have HR := Lib.hid hR
      clear hcells hW hf hW1 hR
      rw [List.length_cons] at *
      obtain ⟨f', hf'⟩ : ∃ f', gk = f' + 1 ∧ f' = sizeT x.1 - 1 + qsize r := by
        have h1 := sizeT_pos x.1
        have h2 := HF.out; rw [qsize] at h2
        exact ⟨sizeT x.1 - 1 + qsize r, by omega, rfl⟩
      obtain ⟨rfl, hf2⟩ := hf'
      have HF2 := Lib.hid hf2; clear hf2 HF
      by_cases hbig : 4096 < nn + 1 ∨ 200 < max d x.2
      · have fin : Hid (res = none) := by unfold Hid; rw [← hq.out, qF, if_pos hbig]
        clear hq hx HW1 HR HF2
        by_cases hcp : c = 1 <;> by_cases h4 : nn = 4096 <;> by_cases h5 : d < x.2
        all_goals first
          | (exfalso; omega)
          | (go_wp2_with fail
             go_ret3
             exact ⟨by rw [fin.out]; rfl, by repeat (first | exact hK | refine Kept.alloc ?_ _)⟩)
      · have hx200 : x.2 ≤ 200 := by omega
        have hnn : nn + 1 ≤ 4096 := by omega
        have hmax : max d x.2 ≤ 200 := by omega
        have hq' : Hid (qF (sizeT x.1 - 1 + qsize r) (r ++ x.1.kids.map fun k => (k, x.2 + 1)) (nn + 1) (max d x.2) = res) := by
          unfold Hid; rw [← hq.out, qF, if_neg hbig, HF2.out]
        have hxr : Hid (∀ y ∈ r ++ x.1.kids.map (fun k => (k, x.2 + 1)), y.2 ≤ 201) := by
          intro y hy
          rcases List.mem_append.1 hy with h | h
          · exact hx.out y (by simp [h])
          · obtain ⟨_, _, rfl⟩ := List.mem_map.1 h; simp; omega
        clear hbig hq hx
        obtain ⟨A1, hA1, W1⟩ : ∃ A1, (if c = 1 then some ⟨g, o, none⟩ else some ⟨g, o + 6, none⟩ : Option Addr) = A1 ∧ Win wo w.heap.size 89 6 (.slice A1 r.length (c - 1)) r.length rest := ⟨_, rfl, by simpa using HW1.out⟩
        have HWW := Lib.hid W1
        have hg : A1 = some ⟨g, o, none⟩ ∨ A1 = some ⟨g, o + 6, none⟩ := by rw [← hA1]; split; exact .inl rfl; exact .inr rfl
        clear HW1 W1
        have hlen : r.length + sizeL x.1.kids ≤ 100000000 := by
          have h1 := length_le_qsize r; have h2 := HF2.out
          have h3 : sizeT x.1 = 1 + sizeL x.1.kids := by cases hx1 : x.1; rw [sizeT, PatT.kids_mk]
          omega
        have hkl := length_le_sizeL x.1.kids
        have hfq : Hid (sizeT x.1 - 1 + qsize r = qsize (r ++ x.1.kids.map fun k => (k, x.2 + 1))) := by
          have h3 : sizeT x.1 = 1 + sizeL x.1.kids := by cases hx1 : x.1; rw [sizeT, PatT.kids_mk]
          unfold Hid; rw [qsize_append, qsize_kids]; omega
        have hSr : Safe S Nix wo.heap.size := hS.mono hK.size
        have X0 : ∃ X, X = wo.heap.size := ⟨_, rfl⟩
        have hBX : w.heap.size ≤ wo.heap.size := hK.size
        have start : ∀ cs1 : Array Value, Kept Nix w (wo.alloc (.cells cs1 89)) ∧ Win (wo.alloc (.cells cs1 89)) w.heap.size 89 6 (.slice A1 r.length (c - 1)) r.length rest ∧ Row6 (wo.alloc (.cells cs1 89)) S rest r ∧ PatsAt (wo.alloc (.cells cs1 89)) S ka' x.1.kids :=
          fun cs1 => ⟨hK.alloc _, HWW.out.alloc _, HR.out.kept ((Kept.refl Nix wo).alloc _) hSr, hkk.kept ((Kept.refl Nix wo).alloc _) hSr⟩
        have HST := Lib.hid start
        have hown : (Value.slice A1 r.length (c - 1)).ownBlock ≠ some wo.heap.size := by
          rcases hg with h | h <;> rw [h] <;> simp [Value.ownBlock] <;> omega
        have HOWN := Lib.hid hown
        clear start HWW HR hown hkk hg
        go_upto_if 27 with fail
        go_cut [7] (fun dv w' => dv = .int .i64 ((max d x.2 : Nat) : Int) ∧ wo.alloc (.cells #[.int .i64 x.1.kind, .string x.1.text, .int .i64 x.1.n, .string x.1.name, .slice ka' x.1.kids.length cap', .int .i64 x.2] 89) = w')
        case first =>
          by_cases h5 : d < x.2
          · go_wp2_with fail
            go_meet
            exact ⟨int_eq (by omega), rfl⟩
          · go_wp2_with fail
            go_meet
            exact ⟨int_eq (by omega), rfl⟩
        case rest =>
          obtain ⟨rfl, rfl⟩ := hcut
          go_wp2_with fail
          go_loopw [5, 40] (fun v i w2 => ∃ (j : Nat) (cs2 : List Value) (a2 : Option Addr) (c2 : Nat), j ≤ x.1.kids.length ∧ i = .int .i64 j ∧ v = .slice a2 (r.length + j) c2 ∧ Win w2 w.heap.size 89 6 v (r.length + j) (rest ++ cs2) ∧
            Row6 w2 S (rest ++ cs2) (r ++ (x.1.kids.take j).map fun k => (k, x.2 + 1)) ∧ Kept Nix w w2 ∧ w2.cell? ⟨wo.heap.size, 5, none⟩ = some (.int .i64 x.2) ∧ wo.heap.size < w2.heap.size ∧ v.ownBlock ≠ some wo.heap.size ∧ PatsAt w2 S ka' x.1.kids) (fun _ i _ => x.1.kids.length - (intOf i).toNat)
          case atStart => exact ⟨0, [], A1, c - 1, Nat.zero_le _, rfl, rfl, by simpa using (HST.out _).2.1, by simpa using (HST.out _).2.2.1, (HST.out _).1, by simp, by simp, HOWN.out, (HST.out _).2.2.2⟩
          case round =>
            obtain ⟨j, cs2, a2, c2, hj, rfl, rfl, hW, hR2, hK2, hc5, hlt5, hno, hkk⟩ := hrel
            clear p0 p1 p2 p3 p4 p5 hA1
            by_cases hlt : j < x.1.kids.length
            · obtain ⟨kb, ko, rfl⟩ := PatsAt_head hkk (by omega)
              have hkid := PatsAt_get x.1.kids kb ko j hlt hkk
              obtain ⟨hSb, hzk, r0, r1, r2, r3, ka2, cap2, r4, hk2⟩ := hkid.open
              have hS2 : Safe S Nix wr.heap.size := hS.mono hK2.size
              have hB2 := hK2.size
              have HW2 := Lib.hid hW; have HRR := Lib.hid hR2; have HNO := Lib.hid hno; have HS2 := Lib.hid hS2; have HKK := Lib.hid hkk; have HK22 := Lib.hid hk2
              have hbx : ∀ (d1 d2 : Array Value) (t1 t2 : TypeId), ((wr.alloc (.cells d1 t1)).alloc (.cells d2 t2)).cell? ⟨wo.heap.size, 5, none⟩ = some (.int .i64 x.2) := fun d1 d2 t1 t2 => by
                rw [World.cell?_alloc_past _ _ _ (by simp; omega), World.cell?_alloc_past _ _ _ hlt5]; exact hc5
              have HBX := Lib.hid hbx
              clear hW hR2 hno hS2 hkk hk2 hkid hbx
              go_wp2_with (at_builtin; go_loud (refine wpList_append_win _ rfl (.tmp 44) (.tmp 50) 90 90 rfl w.heap.size 89 i0 (.agg #[.int .i64 0, .string ⟨#[]⟩, .int .i64 0, .string ⟨#[]⟩, .slice none 0 0, .int .i64 0]) 6 80 Tryz.underlying90 hi hz0 hz1 hz2 rfl _ (r.length + j) (rest ++ cs2) rfl ((HW2.out.alloc _).alloc _) _ 1 [.int .i64 x.1.kids[j].kind, .string x.1.kids[j].text, .int .i64 x.1.kids[j].n, .string x.1.kids[j].name, .slice ka2 x.1.kids[j].kids.length cap2, .int .i64 ((x.2 : Int) + 1)] rfl (Src.ofSlice _ Tryz.underlying90 _ _ _ _ rfl (World.news_of_block (fr := (0, 0)) (cs := #[.int .i64 x.1.kids[j].kind, .string x.1.kids[j].text, .int .i64 x.1.kids[j].n, .string x.1.kids[j].name, .slice ka2 x.1.kids[j].kids.length cap2, .int .i64 ((x.2 : Int) + 1)]) (by simpa using heap_alloc_new (wr.alloc _) _)) (by intro u hu; simp at hu; rcases hu with rfl | rfl | rfl | rfl | rfl | rfl <;> rfl)) (by unfold maxLen; omega) (by omega) (by simp; omega) ?_); intro a3 c3 w3 hW3 hg3 ho3)
              have hlow : ∀ g, (Value.slice a2 (r.length + j) c2).ownBlock = some g → w.heap.size ≤ g := fun g hg => (HW2.out.lt g hg).1
              have kk : Kept (fun k => (Value.slice a2 (r.length + j) c2).ownBlock = some k) wr w3 := (((Kept.refl _ wr).alloc _).alloc _).grown hg3 fun k hk => .inl hk
              have hsafe : Safe S (fun k => (Value.slice a2 (r.length + j) c2).ownBlock = some k) wr.heap.size := fun b hb => ⟨(HS2.out b hb).1, fun h => by have h1 := hlow b h; have h2 := (hS b hb).1; omega⟩
              have K3 : Kept Nix w w3 := hK2.step kk fun k hk => .inr (hlow k hk)
              have hrow : Row6 w3 S [.int .i64 x.1.kids[j].kind, .string x.1.kids[j].text, .int .i64 x.1.kids[j].n, .string x.1.kids[j].name, .slice ka2 x.1.kids[j].kids.length cap2, .int .i64 ((x.2 : Int) + 1)] [(x.1.kids[j], x.2 + 1)] := by
                rw [Row6]; exact ⟨_, [], (List.append_nil _).symm, ⟨[.int .i64 x.1.kids[j].kind, .string x.1.kids[j].text, .int .i64 x.1.kids[j].n, .string x.1.kids[j].name, .slice ka2 x.1.kids[j].kids.length cap2], by simp, ka2, cap2, rfl, hzk, HK22.out.kept kk hsafe⟩, rfl⟩
              have hrr : Row6 w3 S (rest ++ (cs2 ++ [.int .i64 x.1.kids[j].kind, .string x.1.kids[j].text, .int .i64 x.1.kids[j].n, .string x.1.kids[j].name, .slice ka2 x.1.kids[j].kids.length cap2, .int .i64 ((x.2 : Int) + 1)])) (r ++ (x.1.kids.take (j + 1)).map fun k => (k, x.2 + 1)) := by
                have h := (HRR.out.kept kk hsafe).append hrow
                rw [List.take_succ_eq_append_getElem hlt, List.map_append, ← List.append_assoc, ← List.append_assoc]; exact h
              have hc3 : w3.cell? ⟨wo.heap.size, 5, none⟩ = some (.int .i64 x.2) := (kk.cell hlt5 HNO.out).trans hc5
              have hno3 : (Value.slice a3 (r.length + j + 1) c3).ownBlock ≠ some wo.heap.size := by
                rcases ho3 with h | h
                · rw [h]; exact HNO.out
                · rw [h]; simp; omega
              have FIN : Hid _ := (⟨hW3, hrr, K3, hc3, Nat.lt_of_lt_of_le hlt5 kk.size, hno3, HKK.out.kept kk hsafe⟩ : _ ∧ _ ∧ _ ∧ _ ∧ _ ∧ _ ∧ _)
              clear hW3 hrr K3 hc3 hno3 kk hsafe hrow hlow hg3 ho3
              go_roundw
              case rel =>
                obtain ⟨f1, f2, f3, f4, f5, f6, f7⟩ := FIN.out
                exact ⟨j + 1, _, a3, c3, by omega, by go_num, rfl, by rw [← List.append_assoc]; exact f1, f2, f3, f4, f5, f6, f7⟩
              case measure => simp [intOf]; omega
            · have hjl : j = x.1.kids.length := by omega
              have hql : (r ++ x.1.kids.map fun k => (k, x.2 + 1)).length = r.length + j := by rw [List.length_append, List.length_map, hjl]
              have hR3 : Row6 wr S (rest ++ cs2) (r ++ x.1.kids.map fun k => (k, x.2 + 1)) := by rw [hjl, List.take_length] at hR2; exact hR2
              have HQL := Lib.hid hql; have HR3 := Lib.hid hR3; have HWW2 := Lib.hid hW
              clear hjl hql hR3 hW hR2 hno
              go_wp2_with fail
              go_roundg (sizeT x.1 - 1 + qsize r)
              case measure => have := HF2.out; omega
              case rel => exact ⟨r ++ x.1.kids.map fun k => (k, x.2 + 1), rest ++ cs2, a2, c2, nn + 1, max d x.2, by rw [HQL.out], by go_num, rfl, by rw [HQL.out]; exact HWW2.out, HR3.out, hK2, hfq.out, hnn, hmax, by have := HF2.out; omega, hq', hxr⟩
theorem refSize_any (p : PatT) (v : Value) (S : Nat → Prop) (w : World) (hm : sizeT p ≤ 100000000) (hp : PatV w S v p) (hS : Safe S Nix w.heap.size) :
    Calls Tryz.prog 38 #[v] w (fun e w' => e = .returned (refSizeR (qF (sizeT p) [(p, 1)] 0 0)) ∧ Kept Nix w w') :=
  refSize_core _ p rfl v S w hm hp hS
end Go.Proofs.YtcfcdobgpldoiaaGreatDoor

namespace Go.Proofs.YtcfcdobgpldoiaaGreatDoor
set_option linter.all false
open Go.RowKit

/-- An element of a row of patterns, as a pattern in memory. -/
theorem Row5.at {w : World} {S : Nat → Prop} : ∀ {l : List PatT} {cs : List Value}, Row5 w S cs l → ∀ (g o : Nat), (∀ j u, cs[j]? = some u → w.cell? ⟨g, o + j, none⟩ = some u) →
    ∀ (j : Nat) (hj : j < l.length), PatAt w (fun b => S b ∨ b = g) g (o + j * 5) l[j]
  | [], cs, h, g, o, hc, j, hj => by simp at hj
  | p :: ps, cs, h, g, o, hc, j, hj => by
    rw [Row5] at h; obtain ⟨c, r, rfl, ⟨ka, cap, rfl, hz, hk⟩, h2⟩ := h
    cases j with
    | zero =>
      obtain ⟨k, t, n, nm, kids⟩ := p
      rw [List.getElem_cons_zero]; unfold PatAt
      refine ⟨.inr rfl, hz, hc 0 _ rfl, hc 1 _ rfl, hc 2 _ rfl, hc 3 _ rfl, ka, cap, hc 4 _ rfl, PatsAt.same (fun _ _ => rfl) (fun b h => .inl h) _ _ hk⟩
    | succ j =>
      rw [List.getElem_cons_succ, show o + (j + 1) * 5 = o + 5 + j * 5 by omega]
      refine h2.at g (o + 5) (fun i u hi => ?_) j (by simpa using hj)
      rw [show o + 5 + i = o + (5 + i) by omega]; exact hc _ _ (by rw [List.getElem?_append_right (by simp)]; simpa using hi)
theorem Win.row5 {w : World} {B : Nat} {S : Nat → Prop} {e : TypeId} {v : Value} {l : List PatT} {cs : List Value} (h : Win w B e 5 v l.length cs) (hr : Row5 w S cs l) (h0 : 0 < l.length) :
    ∃ g o cap, v = .slice (some ⟨g, o, none⟩) l.length cap ∧ B ≤ g ∧ g < w.heap.size ∧ ∀ (j : Nat) (hj : j < l.length), PatAt w (fun b => S b ∨ b = g) g (o + j * 5) l[j] := by
  rcases h.cells with ⟨_, hn⟩ | ⟨g, o, cap, hv, hb, hg, _, _, hc⟩
  · omega
  · exact ⟨g, o, cap, hv, hb, hg, hr.at g o fun j u hu => (hc j u hu).1⟩
theorem firstF_eq (l : List PatT) (j : Nat) (h : ∀ i, i < j → ∀ (hi : i < l.length), nodeF l[i] = 0) : firstF l = firstF (l.drop j) := by
  induction l generalizing j with
  | nil => simp
  | cons p ps ih =>
    cases j with
    | zero => rfl
    | succ j =>
      have h0 := h 0 (by omega) (by simp)
      rw [List.getElem_cons_zero] at h0
      rw [firstF, if_pos h0, List.drop_succ_cons]
      exact ih j fun i hi hl => by have := h (i + 1) (by omega) (by simpa using hl); simpa using this

def refWrongR (p : PatT) : Int := if fits p then firstF (allT p) else 4
set_option maxRecDepth 100000 in
set_option maxHeartbeats 1000000 in
theorem refWrong_any (p : PatT) (v : Value) (S : Nat → Prop) (w : World) (hm : sizeT p ≤ 100000000) (hp : PatV w S v p) (hS : Safe S Nix w.heap.size) :
    Calls Tryz.prog 22 #[v] w (IntQ (refWrongR p) w) := by
  obtain ⟨ka, cap, rfl, hz, hk⟩ := hp
  have B0 := Box5.new w (.int .i64 p.kind) (.string p.text) (.int .i64 p.n) (.string p.name) (.slice ka p.kids.length cap) 30
  have hk0 := fun x => hk.kept ((Kept.refl Nix w).alloc x) hS
  have HB := Lib.hid B0; have HZ := Lib.hid hz; have HK := Lib.hid hk0
  clear B0 hz hk hk0
  go_enter Tryz.func22, Tryz.ntmps22
  go_wp2_with fail
  refine (refSize_any p _ S _ hm ⟨ka, cap, rfl, HZ.out, HK.out _⟩ (hS.mono (by simp))).mono ?_
  rintro e w1 ⟨rfl, k1⟩
  have B1 := HB.out.kept k1 (fun h => h)
  have K1 : Hid (Kept Nix w w1) := ((Kept.refl Nix w).alloc _).quiet k1
  have HP : Hid (PatV w1 S (.agg #[.int .i64 p.kind, .string p.text, .int .i64 p.n, .string p.name, .slice ka p.kids.length cap]) p) := ⟨ka, cap, rfl, HZ.out, (HK.out _).kept k1 (hS.mono (by simp))⟩
  have hs1 : Hid (Safe S Nix w1.heap.size) := hS.mono K1.out.size
  clear k1 HB HK HZ
  obtain ⟨_, c0, c1, c2, c3, c4⟩ := B1
  have hq := qF_fits p
  by_cases hf : fits p
  · rw [if_pos hf] at hq
    rw [hq]
    have fin : Hid (refWrongR p = firstF (allT p)) := if_pos hf
    have hl : ∀ (j : Nat) (hj : j < (allT p).length), ((allT p)[j]).kids.length ≤ 4096 := fun j hj => by have h := kids_fit p _ (List.getElem_mem hj); have := hf.1; omega
    have hlen := allT_length p
    have hpos := sizeT_pos p
    have HL := Lib.hid hl; have HLEN := Lib.hid hlen
    clear hq hf hl hlen
    dsimp only [refSizeR]
    go_wp2_with fail
    refine (All_any (sizeT p) p _ S _ (Nat.le_refl _) hm HP.out hs1.out).mono ?_
    rintro e w2 ⟨v2, rfl, ⟨cs, hW, hR⟩, k2⟩
    obtain ⟨g, o, cp, rfl, _, hg, hat⟩ := hW.row5 hR (by rw [HLEN.out]; omega)
    have K2 : Hid (Kept Nix w w2) := K1.out.trans k2
    have hle := k2.size
    have AT := Lib.hid hat; have GG := Lib.hid hg
    clear hW hR k2 hat hg c0 c1 c2 c3 c4 K1
    rw [HLEN.out]
    have b2 : ∃ N, N = w2.heap.size := ⟨_, rfl⟩
    go_wp2_with fail
    go_loopw [20] (fun i wr => ∃ j : Nat, j ≤ sizeT p ∧ i = .int .i64 j ∧ Kept Nix w2 wr ∧ Hid (∀ x, x < j → ∀ (hx : x < (allT p).length), nodeF (allT p)[x] = 0)) (fun i _ => sizeT p - (intOf i).toNat)
    case atStart => exact ⟨0, Nat.zero_le _, rfl, Kept.refl _ _, by intro x hx; omega⟩
    case round =>
      obtain ⟨j, hj, rfl, hK, hno⟩ := hrel
      by_cases hlt : j < sizeT p
      · have hj' : j < (allT p).length := by rw [HLEN.out]; exact hlt
        have hn := (AT.out j hj').kept hK (fun b hb => ⟨by rcases hb with h | rfl; exact Nat.lt_of_lt_of_le (hs1.out b h).1 hle; exact GG.out, fun h => h⟩)
        obtain ⟨_, hz', p0, p1, p2, p3, ka', cap', p4, hkk⟩ := hn.open
        have hkk' := fun x => hkk.kept ((Kept.refl Nix wr).alloc x) (fun b hb => ⟨by have := hK.size; rcases hb with h | rfl; exact Nat.lt_of_lt_of_le (Nat.lt_of_lt_of_le (hs1.out b h).1 hle) this; exact Nat.lt_of_lt_of_le GG.out this, fun h => h⟩)
        have HKK := Lib.hid hkk'; have HZ := Lib.hid hz'; have HKr := Lib.hid hK
        clear hn hkk hkk' hz' hK
        go_wp2_with fail
        refine (refNode_any (allT p)[j] _ _ _ ⟨ka', cap', rfl, HZ.out, HKK.out _⟩ (HL.out j hj')).mono ?_
        rintro e w3 ⟨rfl, k3⟩
        have K3 : Hid (Kept Nix w2 w3) := (HKr.out.alloc _).quiet k3
        have N0 : Hid (nodeF (allT p)[j] = nodeF (allT p)[j]) := rfl
        generalize hnf : nodeF (allT p)[j] = nf at N0 ⊢
        have HNF := Lib.hid hnf
        clear k3 HKr HKK HZ p0 p1 p2 p3 p4 hnf N0
        by_cases hz : nf = 0
        · subst hz
          go_wp2_with fail
          go_roundw
          case rel => exact ⟨j + 1, by omega, by go_num, K3.out, by
            intro x hx hxl
            rcases Nat.lt_or_ge x j with h | h
            · exact hno.out x h hxl
            · obtain rfl : x = j := by omega
              exact HNF.out⟩
          case measure => simp [intOf]; omega
        · have hb : (nf != 0) = true := by simpa using hz
          have F : Hid (refWrongR p = nf) := by
            unfold Hid; rw [fin.out, firstF_eq _ j (fun i hi hl => hno.out i hi hl), List.drop_eq_getElem_cons hj', firstF, if_neg (by rw [HNF.out]; exact hz)]; exact HNF.out
          clear hz
          go_wp2_with fail
          go_ret
          exact ⟨ret_int F.out.symm, K2.out.trans K3.out⟩
      · obtain rfl : j = sizeT p := by omega
        have F : Hid (refWrongR p = 0) := by
          unfold Hid; rw [fin.out, firstF_eq _ (sizeT p) (fun i hi hl => hno.out i hi hl), List.drop_of_length_le (by rw [HLEN.out]; exact Nat.le_refl _)]; rfl
        go_wp2_with fail
        go_ret
        exact ⟨ret_int F.out.symm, K2.out.trans hK⟩
  · rw [if_neg hf] at hq
    rw [hq]
    have fin : Hid (refWrongR p = 4) := if_neg hf
    clear hq hf
    dsimp only [refSizeR]
    go_wp2_with fail
    go_ret
    exact ⟨ret_int fin.out.symm, K1.out⟩
end Go.Proofs.YtcfcdobgpldoiaaGreatDoor

/- The program's reader: Read. -/
import Derived.Test.YtlnhcgihpclpaaaGreatDoorPs30
import Derived.Test.YtlnhcgihpclpaaaGreatDoorShelf
import Derived.Test.YtlnhcgihpclpaaaGreatDoorLm12
namespace Go.Proofs.YtlnhcgihpclpaaaGreatDoor
set_option linter.all false
open Go.RowKit

def nl : ByteArray := ⟨#[10]⟩
/-- A program's lines. -/
def linesL (s : ByteArray) : List ByteArray := Lib.splitB nl 0 (Lib.countB s nl) s
def dropE (l : List ByteArray) : List ByteArray := if l.getLast? = some E0 then l.dropLast else l
def readGo (i : Nat) (out : List StT) : List ByteArray → Except Er (List StT)
  | [] => .ok out
  | t :: r => match lineT t with
    | .error er => if er.1 ≠ 0 then .error (er.1, i) else readGo (i + 1) out r
    | .ok none => readGo (i + 1) out r
    | .ok (some x) => readGo (i + 1) (out ++ [x]) r
/-- What Read makes of a text. -/
def readS (s : ByteArray) : Except Er (List StT) :=
  if 65536 < s.size then .error (4, 0)
  else if 1000 < (dropE (linesL s)).length then .error (5, 0)
  else readGo 0 [] (dropE (linesL s))
def ReadSQ (s : ByteArray) (w : World) (e : Ending) (w' : World) : Prop :=
  Kept Nix w w' ∧ match readS s with
    | .ok l => ∃ a c S, e = .returned (.tuple #[.slice a l.length c, flV (0, 0)]) ∧ StsAt w' S a l ∧ ∀ b, S b → w.heap.size ≤ b ∧ b < w'.heap.size
    | .error er => e = .returned (.tuple #[.slice none 0 0, flV er])
theorem lines_len (s : ByteArray) : (linesL s).length = Lib.countB s nl + 1 := Lib.splitB_all nl (by decide) 0 _ s rfl
set_option maxRecDepth 100000 in
theorem clip_any (a : Option Addr) (n c : Nat) (w : World) (h : (a = none ∧ n = 0 ∧ c = 0) ∨ (∃ g o, a = some ⟨g, o, none⟩ ∧ n ≤ c)) : Calls Tryz.prog 16 #[.slice a n c] w (fun e w' => e = .returned (.slice a n n) ∧ w' = w) := by
  rcases h with ⟨rfl, rfl, rfl⟩ | ⟨g, o, rfl, h1⟩
  · go_enter Tryz.func16, Tryz.ntmps16
    go_wp2_with fail
    go_ret
    exact ⟨rfl, rfl⟩
  · have hsz : ∀ wx, (sizeOf 49).run Tryz.prog wx = .ok 24 wx := fun _ => by kernel_rfl
    have hsl : ∀ wx, (Instr.slice 28 (.slice (some ⟨g, o, none⟩) n c) none (some (.int .i64 n)) (some (.int .i64 n))).run Tryz.prog wx = .ok (.slice (some ⟨g, o, none⟩) n n) wx := by
      intro wx
      unfold Instr.slice Instr.sliceBounds Instr.sliceBound
      simp only [Sem.run_bind, run_underlying Tryz.underlying28, Result.andThen_ok, Sem.run_pure, asIntOf]
      rw [if_pos ⟨by omega, by omega⟩]
      simp only [Sem.run_pure, Result.andThen_ok, hsz]
      rw [if_pos ⟨by omega, by omega⟩]
      simp only [Sem.run_pure, Result.andThen_ok, hsz]
      by_cases hn : n = 0
      · simp [Addr.add, hn]
      · simp [Addr.add, hn]
    have hs1 := hsl w
    go_enter Tryz.func16, Tryz.ntmps16
    go_wp2_with fail
    go_ret
    exact ⟨rfl, rfl⟩
theorem wpList_app_st {ops : Array Oper} {rest : List Oper} {o : Oper} {a : Act} {Q : Exit → Act → World → Prop} {w : World} (hgd : o.guard = none) (s x : Operand)
    (ho : o.op = .call { callee := .builtin .append, args := #[s, x], argTypes := #[28, 28] })
    (v : Value) (n : Nat) (cs : List Value) (hs : a.eval s = v) (B : Nat) (hown : Win w B 49 24 v n cs) (g : Nat) (hx : a.eval x = .slice (some ⟨g, 0, none⟩) 1 1)
    (sa : StA) (st : StT) (hg : StB g sa st w) (hn : n ≤ 1000000) (hB : B ≤ w.heap.size)
    (h : ∀ a' c' w', Win w' B 49 24 (.slice a' (n + 1) c') (n + 1) (cs ++ stCells sa st) → w.grownBy w' v.ownBlock → ((Value.slice a' (n + 1) c').ownBlock = v.ownBlock ∨ (Value.slice a' (n + 1) c').ownBlock = some w.heap.size) → wpList Tryz.prog ops Q rest (a.put o.dst (.slice a' (n + 1) c')) w') :
    wpList Tryz.prog ops Q (o :: rest) a w := by
  obtain ⟨i0, hi0, hz0, hz1, hz2⟩ := info_parts infoStZ
  exact wpList_append_win w hgd s x _ _ ho B 49 i0 stZero 24 368 Tryz.underlying28 hi0 hz0 hz1 hz2 rfl v n cs hs hown _ 1 _ hx (st_src hg) (by unfold maxLen; omega) (by omega) hB h
/-- While lines are read. -/
structure RdI (B F : Nat) (w1 : World) (out : List StT) (v : Value) (wx : World) : Prop where
  win : ∃ cs S, Win wx B 49 24 v out.length cs ∧ Row24 wx S cs out ∧ ∀ b, S b → B ≤ b ∧ b < wx.heap.size ∧ v.ownBlock ≠ some b
  k : Kept Nix w1 wx
  lt : B = w1.heap.size
theorem RdI.kept {B F : Nat} {w1 wx wy : World} {out : List StT} {v : Value} (h : RdI B F w1 out v wx) (hk : Kept Nix wx wy) : RdI B F w1 out v wy := by
  obtain ⟨⟨cs, S, h1, h2, h3⟩, h4, h5⟩ := h
  exact ⟨⟨cs, S, h1.kept hk (fun _ _ h => h), h2.kept hk (fun b hb => ⟨(h3 b hb).2.1, fun h => h⟩), fun b hb => ⟨(h3 b hb).1, Nat.lt_of_lt_of_le (h3 b hb).2.1 hk.size, (h3 b hb).2.2⟩⟩, h4.trans hk, h5⟩
theorem dropE_len (l : List ByteArray) : (dropE l).length ≤ l.length := by
  unfold dropE; split
  · rw [List.length_dropLast]; omega
  · exact Nat.le_refl _
theorem dropE_get (l : List ByteArray) (j : Nat) (h : j < (dropE l).length) : (dropE l)[j] = l[j]'(Nat.lt_of_lt_of_le h (dropE_len l)) := by
  unfold dropE at h ⊢
  split
  · simp [List.getElem_dropLast]
  · rfl
theorem readGo_drop (i : Nat) (out : List StT) (l : List ByteArray) (j : Nat) (h : j < l.length) : readGo i out (l.drop j) = match lineT l[j] with
    | .error er => if er.1 ≠ 0 then .error (er.1, i) else readGo (i + 1) out (l.drop (j + 1))
    | .ok none => readGo (i + 1) out (l.drop (j + 1))
    | .ok (some x) => readGo (i + 1) (out ++ [x]) (l.drop (j + 1)) := by
  rw [List.drop_eq_getElem_cons h, readGo]
theorem Row24.more {w : World} {S S' : Nat → Prop} : ∀ {l : List StT} {cs : List Value}, Row24 w S cs l → (∀ b, S b → S' b) → Row24 w S' cs l
  | [], _, h, _ => h
  | p :: ps, cs, h, hs => by
    rw [Row24] at h ⊢; obtain ⟨sa, r, rfl, hz, h1, h2⟩ := h
    exact ⟨sa, r, rfl, hz, ⟨PatsAt.same (fun _ _ => rfl) hs _ _ h1.target, PatsAt.same (fun _ _ => rfl) hs _ _ h1.value, PatsAt.same (fun _ _ => rfl) hs _ _ h1.pat, fun h => (by obtain ⟨b, o, e, hb, hc⟩ := h1.params h; exact ⟨b, o, e, hs b hb, hc⟩), fun h => (by obtain ⟨b, o, e, hb, hc⟩ := h1.locals h; exact ⟨b, o, e, hs b hb, hc⟩)⟩, h2.more hs⟩
theorem rng_kept {w w2 : World} (h : RngAt w) (k : Kept Nix w w2) : RngAt w2 := by
  obtain ⟨ev, h1, h2⟩ := h; exact ⟨ev, (k.cell (cell_lt h1) (fun h => h)).trans h1, h2⟩
set_option maxRecDepth 100000 in
set_option maxHeartbeats 16000000 in
theorem readS_any (s : ByteArray) (w : World) (hs : s.size ≤ 1000000000) (hm : MaxC w) (hr : RngAt w) : Calls Tryz.prog 9 #[.string s] w (ReadSQ s w) := by
  obtain ⟨w0, hw0⟩ : ∃ w0, w0 = w.alloc (.cells #[.int .i64 0, .int .i64 0] 30) := ⟨_, rfl⟩
  have k0 : Kept Nix w w0 := by rw [hw0]; exact (Kept.refl _ _).alloc _
  have F0 : Hid (Fl w.heap.size 0 0 w0) := by rw [hw0]; exact heap_alloc_new w _
  have M0 := hm.kept k0 (fun h => h); have G0 := rng_kept hr k0
  have HW0 := Lib.hid hw0; have K0 := Lib.hid k0
  obtain ⟨F, hF⟩ : ∃ F, F = w.heap.size := ⟨_, rfl⟩
  rw [← hF] at F0
  have HF := Lib.hid hF
  have hz0 : w0.heap.size = F + 1 := by rw [hw0, hF]; simp
  have HZ0 := Lib.hid hz0
  clear hw0 k0 hF hz0 hm hr
  by_cases hbig : 65536 < s.size
  · have fin : Hid (readS s = .error (4, 0)) := by unfold Hid readS; rw [if_pos hbig]
    have d1 : decide ((65536 : Int) < (s.size : Int)) = true := decide_eq_true (by omega)
    have d2 : decide (65536 < s.size) = true := decide_eq_true hbig
    clear hbig
    obtain ⟨f0, f1, f2, f3⟩ := F0.out.cells
    go_enter Tryz.func9, Tryz.ntmps9
    go_upto_region 1 with fail
    rw [← HW0.out, ← HF.out]
    go_wp2_with fail
    refine ret_vf rfl rfl rfl (F0.out.set _ _) ⟨K0.out.faultSet (Nat.le_of_eq HF.out.symm) _ _, ?_⟩
    rw [fin.out]; exact rfl
  have d1 : decide ((65536 : Int) < (s.size : Int)) = false := decide_eq_false (by omega)
  have d2 : decide (65536 < s.size) = false := decide_eq_false hbig
  have HE : Hid (readS s = if 1000 < (dropE (linesL s)).length then .error (5, 0) else readGo 0 [] (dropE (linesL s))) := by unfold Hid readS; rw [if_neg hbig]
  obtain ⟨L, hL⟩ : ∃ L, L = linesL s := ⟨_, rfl⟩
  have hLl := lines_len s
  rw [← hL] at hLl HE
  obtain ⟨m, hmx⟩ : ∃ m, w0.cell? ⟨0, 0, none⟩ = some (.int .i64 m) := M0
  have HSP := Lib.hid (Tryz.strings_Split s nl m w0 (by omega) hmx (by decide))
  have hcl : Lib.countB s nl ≤ s.size := Lib.countB_le nl (by decide) _ s (Nat.le_refl _)
  obtain ⟨n, hn⟩ : ∃ n, n = Lib.countB s nl + 1 := ⟨_, rfl⟩
  rw [← hn] at hLl HSP
  have hn0 : 0 < n := by omega
  have hnb : n ≤ 65537 := by omega
  rw [show Lib.splitB nl 0 (Lib.countB s nl) s = L from hL.symm] at HSP
  obtain ⟨w1, hw1⟩ : ∃ w1, w1 = w0.alloc (.cells (L.map Value.string).toArray 9) := ⟨_, rfl⟩
  have k1 : Kept Nix w0 w1 := by rw [hw1]; exact (Kept.refl _ _).alloc _
  have hrow : w1.heap[w0.heap.size]? = some (.cells (L.map Value.string).toArray 9 (0, 0)) := by rw [hw1]; exact heap_alloc_new w0 _
  obtain ⟨g, hg⟩ : ∃ g, g = w0.heap.size := ⟨_, rfl⟩
  rw [← hw1, ← hg] at HSP
  rw [← hg] at hrow
  have HC : Hid (∀ j (h : j < L.length), w1.cell? ⟨g, j, none⟩ = some (.string L[j])) := by
    intro j h
    rw [cell_of_row w1 g j _ _ _ hrow]
    simp [h]
  have F1 := Lib.hid (F0.out.kept k1 (fun h => h))
  have HM : Hid (MaxC w1) := MaxC.kept ⟨m, hmx⟩ k1 (fun h => h)
  have HG := Lib.hid (rng_kept G0 k1)
  have K1 := Lib.hid (K0.out.trans k1)
  have hgl : g < w1.heap.size := (Array.getElem?_eq_some_iff.1 hrow).1
  have hLz : ∀ j (h : j < L.length), L[j].size ≤ s.size := by
    intro j h
    have hm : L[j] ∈ linesL s := by
      have := List.getElem_mem h
      exact hL ▸ this
    have key : ∀ (k : Nat) (s : ByteArray), ∀ x ∈ Lib.splitB nl 0 k s, x.size ≤ s.size := by
      intro k
      induction k with
      | zero => intro s x hx; rw [Lib.splitB_zero] at hx; rw [List.mem_singleton.1 hx]; exact Nat.le_refl _
      | succ k ih =>
        intro s x hx
        rcases Lib.indexB_cases s nl with hi | ⟨i, hi2, _⟩
        · rw [Lib.splitB_miss nl 0 _ s hi] at hx; rw [List.mem_singleton.1 hx]; exact Nat.le_refl _
        · rw [Lib.splitB_hit nl 0 k s i hi2] at hx
          rcases List.mem_cons.1 hx with rfl | hx
          · rw [ByteArray.size_extract]; omega
          · have := ih _ x hx; rw [ByteArray.size_extract] at this; omega
    exact key _ s _ hm
  have HLZ := Lib.hid hLz
  clear hw1 k1 hg hL hcl hn hmx G0 hLz hrow
  go_enter Tryz.func9, Tryz.ntmps9
  go_upto_region 1 with fail
  rw [← HW0.out, ← HF.out]
  go_upto_region 4 with (go_at_call 14; (refine HSP.out.mono ?_); rintro e w2 ⟨rfl, hw_⟩; subst hw_)
  obtain ⟨w1, rfl⟩ : ∃ x : World, x = w2 := ⟨_, rfl⟩
  obtain ⟨n1, hn1⟩ : ∃ n1, n = n1 + 1 := ⟨n - 1, by omega⟩
  have hn1i : (n : Int) - 1 = (n1 : Int) := by omega
  have bi : (n1 : Int) < (n : Int) := by omega
  have hlast : L.getLast? = some (L[n1]'(by omega)) := by rw [List.getLast?_eq_getElem?, show L.length - 1 = n1 by omega]; exact List.getElem?_eq_getElem (by omega)
  have cl := HC.out n1 (by omega)
  obtain ⟨x1, hx1⟩ : ∃ x, x = L[n1]'(by omega) := ⟨_, rfl⟩
  rw [← hx1] at cl hlast
  obtain ⟨ls, hls⟩ : ∃ ls, ls = dropE L := ⟨_, rfl⟩
  have HLE : Hid (ls.length ≤ n) := by unfold Hid; rw [hls, ← hLl]; exact dropE_len L
  have HCL : Hid (∀ j (h : j < ls.length), w1.cell? ⟨g, j, none⟩ = some (.string ls[j])) := by
    unfold Hid; subst hls
    intro j h
    rw [dropE_get L j h]; exact HC.out j _
  have HSZ : Hid (∀ j (h : j < ls.length), ls[j].size ≤ s.size) := by
    unfold Hid; subst hls
    intro j h
    rw [dropE_get L j h]; exact HLZ.out j _
  have hsl : ∀ wx, (Instr.slice 25 (.slice (some ⟨g, 0, none⟩) n n) none (some (.int .i64 n1)) none).run Tryz.prog wx = .ok (.slice (some ⟨g, 0, none⟩) n1 n) wx := by
    intro wx
    have hsz : (sizeOf 9).run Tryz.prog wx = .ok 1 wx := by kernel_rfl
    unfold Instr.slice Instr.sliceBounds Instr.sliceBound
    simp only [Sem.run_bind, run_underlying Tryz.underlying25, Result.andThen_ok, Sem.run_pure, asIntOf]
    rw [if_pos ⟨by omega, by omega⟩]
    simp only [Sem.run_pure, Result.andThen_ok, hsz]
    have hn : ¬ (n = 0) := by omega
    simp [Addr.add, hn]
  rw [← hls] at HE
  have HN1 := Lib.hid hn1
  clear hx1 hn1
  go_upto_if 23 with fail
  go_cut [4] (fun v wx => v = .slice (some ⟨g, 0, none⟩) ls.length n ∧ w1 = wx)
  case first =>
    by_cases he : x1 = E0
    · have y1 : x1.toList.isEmpty = true := by rw [he]; exact text_none
      have y2 : (x1.toList == []) = true := by rw [he, ByteArray.toList_eq]; rfl
      have hlen : ls.length = n1 := by rw [hls]; unfold dropE; rw [if_pos (by rw [hlast, he]), List.length_dropLast, hLl, HN1.out]; rfl
      have hs1 := hsl w1
      have HLn := Lib.hid hlen
      clear he hlast hls hsl hlen
      rw [y1]
      go_wp2_with fail
      go_meet
      exact ⟨by rw [HLn.out], rfl⟩
    · have y1 : x1.toList.isEmpty = false := text_some he
      have y2 : (x1.toList == []) = false := by
        cases h : (x1.toList == []) with
        | false => rfl
        | true => rw [eq_of_beq h] at y1; cases y1
      have hlen : ls.length = n := by rw [hls]; unfold dropE; rw [if_neg (by rw [hlast]; intro h; exact he (Option.some.inj h)), hLl]
      have HLn := Lib.hid hlen
      clear he hlast hls hsl hlen
      rw [y1]
      go_wp2_with fail
      go_meet
      exact ⟨by rw [HLn.out], rfl⟩
  case rest =>
    obtain ⟨rfl, rfl⟩ := hcut
    clear hsl hlast hls cl HC HLZ bi hn1i
    have hlb : ls.length ≤ 65537 := by have := HLE.out; omega
    by_cases hmany : 1000 < ls.length
    · have fin : Hid (readS s = .error (5, 0)) := by unfold Hid; rw [HE.out, if_pos hmany]
      have d3 : decide ((1000 : Int) < (ls.length : Int)) = true := decide_eq_true (by omega)
      have d4 : decide (1000 < ls.length) = true := decide_eq_true hmany
      clear hmany
      obtain ⟨f0, f1, f2, f3⟩ := F1.out.cells
      go_wp2_with fail
      refine ret_vf rfl rfl rfl (F1.out.set _ _) ⟨K1.out.faultSet (Nat.le_of_eq HF.out.symm) _ _, ?_⟩
      rw [fin.out]; exact rfl
    have d3 : decide ((1000 : Int) < (ls.length : Int)) = false := decide_eq_false (by omega)
    have d4 : decide (1000 < ls.length) = false := decide_eq_false hmany
    have HE2 : Hid (readS s = readGo 0 [] (ls.drop 0)) := by unfold Hid; rw [HE.out, if_neg hmany, List.drop_zero]
    have HL1 : Hid (ls.length ≤ 1000) := Nat.not_lt.1 hmany
    obtain ⟨B, hB⟩ : ∃ B, B = w1.heap.size := ⟨_, rfl⟩
    have HB := Lib.hid hB
    have I0 : Hid (RdI B F w1 [] (.slice none 0 0) w1) := ⟨⟨[], Nix, Win.nil _ _ _ _, by rw [Row24], fun b hb => hb.elim⟩, Kept.refl _ _, hB⟩
    clear hmany hB HE
    go_wp2_with fail
    go_loopg [5, 35] ls.length (fun f v x wr => ∃ (j n2 : Nat) (out : List StT) (a : Option Addr) (c : Nat), x = .int .i64 j ∧ v = .slice a n2 c ∧ j ≤ ls.length ∧ f = ls.length - j ∧ Hid (n2 = out.length ∧ n2 ≤ j) ∧ Hid (RdI B F w1 out (.slice a n2 c) wr) ∧ Hid (readS s = readGo j out (ls.drop j)))
    case atStart => exact ⟨0, 0, [], none, 0, rfl, rfl, Nat.zero_le _, rfl, ⟨rfl, Nat.le_refl _⟩, I0, HE2⟩
    case round =>
      obtain ⟨j, n2, out, a, c, rfl, rfl, hj, rfl, hn2, I, hrd⟩ := hrel
      by_cases hlt : j < ls.length
      · have e1 : decide ((j : Int) < (ls.length : Int)) = true := decide_eq_true (by omega)
        have e2 : decide (j < ls.length) = true := decide_eq_true hlt
        have bj : (j : Int) < (ls.length : Int) := by omega
        have cj : wr.cell? ⟨g, j, none⟩ = some (.string ls[j]) := (I.out.k.cell hgl (fun h => h)).trans (HCL.out j hlt)
        have hrd2 : Hid (readS s = match lineT ls[j] with
            | .error er => if er.1 ≠ 0 then .error (er.1, j) else readGo (j + 1) out (ls.drop (j + 1))
            | .ok none => readGo (j + 1) out (ls.drop (j + 1))
            | .ok (some x) => readGo (j + 1) (out ++ [x]) (ls.drop (j + 1))) := by unfold Hid; rw [hrd.out, readGo_drop j out ls j hlt]
        have hjb : j < 1000 := by have := HL1.out; omega
        clear hrd
        cases hu : lineT ls[j] with
        | error er =>
          go_upto_region 13 with (first
            | (go_at_call 15; (refine (line_any ls[j] wr (by have := HSZ.out j hlt; omega) (HM.out.kept I.out.k (fun h => h)) (rng_kept HG.out I.out.k)).mono ?_); intro e w3 h_; obtain ⟨k_, h_⟩ := h_; rw [hu] at h_; unfold flV at h_; obtain rfl := h_; have HK3 := Lib.hid k_; clear k_)
            | (refine wpList_store_st rfl _ _ rfl w3.heap.size rfl nilA stZ rfl _ ((Below.heap_alloc _ _ _ (by simp)).trans (heap_alloc_new w3 _)) rfl ?_; intro w4 hB4 hk4; have S4 := Lib.hid hB4; have HK4 := Lib.hid hk4; have FF4 := Lib.hid (Fl.kept (X := (· = w3.heap.size)) (heap_new2 (by simp) : Fl (w3.heap.size + 1) 0 0 _) hk4 (by omega)); obtain ⟨q0, q1, qf0, qf1⟩ := FF4.out.cells; clear hB4 hk4))
          have FF5 := Lib.hid (FF4.out.set (er.1) (er.2))
          have hz34 : w3.heap.size + 1 < w4.heap.size := FF4.out.lt
          have K35 : Hid (Kept Nix w3 ((w4.setCell ⟨w3.heap.size + 1, 0, none⟩ (.int .i64 (er.1))).setCell ⟨w3.heap.size + 1, 1, none⟩ (.int .i64 (er.2)))) := (((((Kept.refl Nix w3).alloc _).alloc _).step HK4.out (fun y hy => .inr (by omega))).step (((Kept.refl (· = w3.heap.size + 1) _).setCell (p := ⟨w3.heap.size + 1, 0, none⟩) (.inl rfl) _).setCell (p := ⟨w3.heap.size + 1, 1, none⟩) (.inl rfl) _) (fun y hy => .inr (by omega)))
          have S5 := Lib.hid (S4.out.kept (((Kept.refl (· = w3.heap.size + 1) w4).setCell (p := ⟨w3.heap.size + 1, 0, none⟩) (.inl rfl) (.int .i64 (er.1))).setCell (p := ⟨w3.heap.size + 1, 1, none⟩) (.inl rfl) (.int .i64 (er.2))) (by omega))
          obtain ⟨w5, hw5⟩ : ∃ w5, w5 = (w4.setCell ⟨w3.heap.size + 1, 0, none⟩ (.int .i64 (er.1))).setCell ⟨w3.heap.size + 1, 1, none⟩ (.int .i64 (er.2)) := ⟨_, rfl⟩
          rw [← hw5] at FF5 K35 S5
          rw [← hw5]
          have I5 := Lib.hid ((I.out.kept HK3.out).kept K35.out)
          clear hw5 q0 q1 qf0 qf1
          obtain ⟨q0, q1, qf0, qf1⟩ := FF5.out.cells
          by_cases he : er.1 = 0
          · have y1 : (er.1 != 0) = false := by simpa using he
            have y2 : er.1 = 0 := he
            go_wp2_with fail
            go_roundg (ls.length - (j + 1))
            case measure => omega
            case rel => exact ⟨j + 1, n2, out, a, c, by go_num, rfl, by omega, rfl, ⟨hn2.out.1, by have := hn2.out.2; omega⟩, I5, by unfold Hid; rw [hrd2.out, hu]; dsimp only; rw [if_neg (by simp [y2])]⟩
          · have y1 : (er.1 != 0) = true := by simpa using he
            have fin : Hid (readS s = .error (er.1, j)) := by unfold Hid; rw [hrd2.out, hu]; dsimp only; rw [if_pos he]
            have F5 := Lib.hid (F1.out.kept I5.out.k (fun h => h))
            obtain ⟨f0, f1, f2, f3⟩ := F5.out.cells
            have KW := Lib.hid (K1.out.trans I5.out.k)
            clear he
            go_wp2_with fail
            go_region
            all_goals go_wp2_with fail
            all_goals
              refine ret_vf rfl rfl rfl (Fl.kept (F5.out.set er.1 j) (Kept.refl Nix _).drew (fun h => h)) ⟨(KW.out.faultSet (Nat.le_of_eq HF.out.symm) _ _).drew, ?_⟩
              rw [fin.out]; exact rfl
        | ok o =>
          cases o with
          | none =>
            go_upto_region 13 with (first
              | (go_at_call 15; (refine (line_any ls[j] wr (by have := HSZ.out j hlt; omega) (HM.out.kept I.out.k (fun h => h)) (rng_kept HG.out I.out.k)).mono ?_); intro e w3 h_; obtain ⟨k_, h_⟩ := h_; rw [hu] at h_; unfold flV at h_; obtain rfl := h_; have HK3 := Lib.hid k_; clear k_)
              | (refine wpList_store_st rfl _ _ rfl w3.heap.size rfl nilA stZ rfl _ ((Below.heap_alloc _ _ _ (by simp)).trans (heap_alloc_new w3 _)) rfl ?_; intro w4 hB4 hk4; have S4 := Lib.hid hB4; have HK4 := Lib.hid hk4; have FF4 := Lib.hid (Fl.kept (X := (· = w3.heap.size)) (heap_new2 (by simp) : Fl (w3.heap.size + 1) 0 0 _) hk4 (by omega)); obtain ⟨q0, q1, qf0, qf1⟩ := FF4.out.cells; clear hB4 hk4))
            have FF5 := Lib.hid (FF4.out.set (0) (0))
            have hz34 : w3.heap.size + 1 < w4.heap.size := FF4.out.lt
            have K35 : Hid (Kept Nix w3 ((w4.setCell ⟨w3.heap.size + 1, 0, none⟩ (.int .i64 (0))).setCell ⟨w3.heap.size + 1, 1, none⟩ (.int .i64 (0)))) := (((((Kept.refl Nix w3).alloc _).alloc _).step HK4.out (fun y hy => .inr (by omega))).step (((Kept.refl (· = w3.heap.size + 1) _).setCell (p := ⟨w3.heap.size + 1, 0, none⟩) (.inl rfl) _).setCell (p := ⟨w3.heap.size + 1, 1, none⟩) (.inl rfl) _) (fun y hy => .inr (by omega)))
            have S5 := Lib.hid (S4.out.kept (((Kept.refl (· = w3.heap.size + 1) w4).setCell (p := ⟨w3.heap.size + 1, 0, none⟩) (.inl rfl) (.int .i64 (0))).setCell (p := ⟨w3.heap.size + 1, 1, none⟩) (.inl rfl) (.int .i64 (0))) (by omega))
            obtain ⟨w5, hw5⟩ : ∃ w5, w5 = (w4.setCell ⟨w3.heap.size + 1, 0, none⟩ (.int .i64 (0))).setCell ⟨w3.heap.size + 1, 1, none⟩ (.int .i64 (0)) := ⟨_, rfl⟩
            rw [← hw5] at FF5 K35 S5
            rw [← hw5]
            have I5 := Lib.hid ((I.out.kept HK3.out).kept K35.out)
            clear hw5 q0 q1 qf0 qf1
            obtain ⟨q0, q1, qf0, qf1⟩ := FF5.out.cells
            go_wp2_with fail
            go_roundg (ls.length - (j + 1))
            case measure => omega
            case rel => exact ⟨j + 1, n2, out, a, c, by go_num, rfl, by omega, rfl, ⟨hn2.out.1, by have := hn2.out.2; omega⟩, I5, by unfold Hid; rw [hrd2.out, hu]⟩
          | some st =>
            go_upto_region 13 with (first
              | (go_at_call 15; (refine (line_any ls[j] wr (by have := HSZ.out j hlt; omega) (HM.out.kept I.out.k (fun h => h)) (rng_kept HG.out I.out.k)).mono ?_); intro e w3 h_; obtain ⟨k_, h_⟩ := h_; rw [hu] at h_; unfold flV at h_; obtain ⟨sa, SS, rfl, hsz_, hok_, hSS_⟩ := h_; have HSZ3 := Lib.hid hsz_; have HOK3 := Lib.hid hok_; have HSS3 := Lib.hid hSS_; clear hsz_ hok_ hSS_; have HK3 := Lib.hid k_; clear k_)
              | (refine wpList_store_st rfl _ _ rfl w3.heap.size rfl sa st rfl _ ((Below.heap_alloc _ _ _ (by simp)).trans (heap_alloc_new w3 _)) rfl ?_; intro w4 hB4 hk4; have S4 := Lib.hid hB4; have HK4 := Lib.hid hk4; have FF4 := Lib.hid (Fl.kept (X := (· = w3.heap.size)) (heap_new2 (by simp) : Fl (w3.heap.size + 1) 0 0 _) hk4 (by omega)); obtain ⟨q0, q1, qf0, qf1⟩ := FF4.out.cells; clear hB4 hk4))
            have FF5 := Lib.hid (FF4.out.set (0) (0))
            have hz34 : w3.heap.size + 1 < w4.heap.size := FF4.out.lt
            have K35 : Hid (Kept Nix w3 ((w4.setCell ⟨w3.heap.size + 1, 0, none⟩ (.int .i64 (0))).setCell ⟨w3.heap.size + 1, 1, none⟩ (.int .i64 (0)))) := (((((Kept.refl Nix w3).alloc _).alloc _).step HK4.out (fun y hy => .inr (by omega))).step (((Kept.refl (· = w3.heap.size + 1) _).setCell (p := ⟨w3.heap.size + 1, 0, none⟩) (.inl rfl) _).setCell (p := ⟨w3.heap.size + 1, 1, none⟩) (.inl rfl) _) (fun y hy => .inr (by omega)))
            have S5 := Lib.hid (S4.out.kept (((Kept.refl (· = w3.heap.size + 1) w4).setCell (p := ⟨w3.heap.size + 1, 0, none⟩) (.inl rfl) (.int .i64 (0))).setCell (p := ⟨w3.heap.size + 1, 1, none⟩) (.inl rfl) (.int .i64 (0))) (by omega))
            obtain ⟨w5, hw5⟩ : ∃ w5, w5 = (w4.setCell ⟨w3.heap.size + 1, 0, none⟩ (.int .i64 (0))).setCell ⟨w3.heap.size + 1, 1, none⟩ (.int .i64 (0)) := ⟨_, rfl⟩
            rw [← hw5] at FF5 K35 S5
            rw [← hw5]
            have I5 := Lib.hid ((I.out.kept HK3.out).kept K35.out)
            clear hw5 q0 q1 qf0 qf1
            obtain ⟨q0, q1, qf0, qf1⟩ := FF5.out.cells
            obtain ⟨cs, S1, hw1, hr1, hS1⟩ := I5.out.win
            have HW1 := Lib.hid hw1; have HR1 := Lib.hid hr1; have HS1 := Lib.hid hS1
            have hBw : B ≤ w5.heap.size := by have := I5.out.k.size; have := I5.out.lt; omega
            have hn3 : n2 ≤ 1000000 := by have := hn2.out.2; have := HL1.out; omega
            clear hw1 hr1 hS1
            go_wp2_with (first
              | (refine wpList_load_st rfl _ rfl w3.heap.size 0 rfl sa st S5.out.hc0 ?_)
              | (refine wpList_build_st rfl _ rfl sa st rfl ?_; intro w6 hB6 hk6; have S6 := Lib.hid hB6; have K6 := Lib.hid hk6; clear hB6 hk6)
              | (refine wpList_app_st rfl _ _ rfl (.slice a n2 c) n2 cs rfl B (by have e_ := HW1.out.kept K6.out (fun _ _ h => h); rw [← hn2.out.1] at e_; exact e_) w5.heap.size rfl sa st S6.out hn3 (by have := K6.out.size; omega) ?_; intro a7 c7 w7 hW7 hg7 ho7; have W7 := Lib.hid hW7; have HG7 := Lib.hid hg7; have HO7 := Lib.hid ho7; clear hW7 hg7 ho7))
            have hl5 : B ≤ w5.heap.size := hBw
            have K7 : Kept (fun b => (Value.slice a n2 c).ownBlock = some b) w6 w7 := (Kept.refl _ w6).grown HG7.out (fun b hb => .inl hb)
            have hlow : ∀ b, (Value.slice a n2 c).ownBlock = some b → B ≤ b ∧ b < w5.heap.size := HW1.out.lt
            have hlowr : ∀ b, (Value.slice a n2 c).ownBlock = some b → b < wr.heap.size := by obtain ⟨_, _, hwr, _⟩ := I.out.win; exact fun b hb => (hwr.lt b hb).2
            have hs6 := K6.out.size; have hs7 := K7.size; have hs35 := K35.out.size; have hs3 := HK3.out.size
            have hBr : B ≤ wr.heap.size := by have := I.out.k.size; have := I.out.lt; omega
            have I7 : Hid (RdI B F w1 (out ++ [st]) (.slice a7 (n2 + 1) c7) w7) := by
              refine ⟨⟨cs ++ stCells sa st, fun b => S1 b ∨ SS b, ?_, ?_, ?_⟩, (I5.out.k.trans K6.out).step K7 (fun y hy => .inr (by have := hlow y hy; have := I5.out.lt; omega)), I5.out.lt⟩
              · rw [List.length_append, ← hn2.out.1]; exact W7.out
              · refine Row24.append ?_ ?_
                · have r1 := (HR1.out.kept K6.out (fun b hb => ⟨(HS1.out b hb).2.1, fun h => h⟩)).kept K7 (fun b hb => ⟨by have := (HS1.out b hb).2.1; omega, (HS1.out b hb).2.2⟩)
                  exact Row24.more r1 (fun b h => .inl h)
                · refine Row24.one HSZ3.out ?_
                  have o1 := HOK3.out.to (S' := SS) K35.out (fun b hb => ⟨(HSS3.out b hb).2, fun h => h⟩) (fun _ h => h)
                  have o2 := o1.to (S' := SS) K6.out (fun b hb => ⟨by have := (HSS3.out b hb).2; omega, fun h => h⟩) (fun _ h => h)
                  exact o2.to K7 (fun b hb => ⟨by have := (HSS3.out b hb).2; omega, fun e => by have := hlowr b e; have := (HSS3.out b hb).1; omega⟩) (fun b h => .inr h)
              · intro b hb
                rcases hb with hb | hb
                · have x := HS1.out b hb
                  refine ⟨x.1, by omega, ?_⟩
                  rcases HO7.out with h | h
                  · rw [h]; exact x.2.2
                  · rw [h]; intro h'; have := Option.some.inj h'; omega
                · have x := HSS3.out b hb
                  refine ⟨by omega, by omega, ?_⟩
                  rcases HO7.out with h | h
                  · rw [h]; intro h'; have := hlowr b h'; omega
                  · rw [h]; intro h'; have := Option.some.inj h'; omega
            go_roundg (ls.length - (j + 1))
            case measure => omega
            case rel => exact ⟨j + 1, n2 + 1, out ++ [st], a7, c7, by go_num, rfl, by omega, rfl, ⟨by rw [List.length_append, ← hn2.out.1]; rfl, by have := hn2.out.2; omega⟩, I7, by unfold Hid; rw [hrd2.out, hu]⟩
      · obtain rfl : j = ls.length := by omega
        have e1 : decide ((ls.length : Int) < (ls.length : Int)) = false := decide_eq_false (by omega)
        have e2 : decide (ls.length < ls.length) = false := decide_eq_false (by omega)
        have fin : Hid (readS s = .ok out) := by unfold Hid; rw [hrd.out, List.drop_length]; rfl
        obtain ⟨cs, S, hw1, hw2, hw3⟩ := I.out.win
        have hcl : (a = none ∧ n2 = 0 ∧ c = 0) ∨ (∃ g o, a = some ⟨g, o, none⟩ ∧ n2 ≤ c) := by
          rcases hw1.cells with ⟨hv, hn⟩ | ⟨g, o, c', hv, _, _, hcap, _⟩
          · simp only [Value.slice.injEq] at hv
            exact .inl ⟨hv.1, hv.2.1, hv.2.2⟩
          · simp only [Value.slice.injEq] at hv
            exact .inr ⟨g, o, hv.1, by have := hn2.out.1; omega⟩
        have HCLP := Lib.hid (clip_any a n2 c wr hcl)
        have HW1 := Lib.hid hw1; have HW2 := Lib.hid hw2; have HW3 := Lib.hid hw3
        have F5 := Lib.hid (F1.out.kept I.out.k (fun h => h))
        have KW := Lib.hid (K1.out.trans I.out.k)
        obtain ⟨f0, f1, f2, f3⟩ := F5.out.cells
        clear hw1 hw2 hw3 hcl hrd
        go_wp2_with (go_at_call 16; (refine HCLP.out.mono ?_); rintro e w9 ⟨rfl, hw_⟩; obtain rfl := hw_)
        obtain ⟨a5, c5, hv5, hst⟩ := Win.sts (S' := fun b => S b ∨ (Value.slice a n2 c).ownBlock = some b) HW1.out HW2.out (fun b hb => ⟨(HW3.out b hb).2.1, fun h => h⟩) (fun b h => .inl h) (fun g h => .inr h)
        simp only [Value.slice.injEq] at hv5
        obtain ⟨rfl, hn5, rfl⟩ := hv5
        have hb9 : B = w1.heap.size := I.out.lt
        have hFb : w.heap.size + 1 ≤ B := by have := K1.out.size; have := F1.out.lt; have := HF.out; omega
        have hlow : ∀ b, (S b ∨ (Value.slice a n2 c).ownBlock = some b) → B ≤ b ∧ b < w9.heap.size := fun b hb => by
          rcases hb with hb | hb
          · exact ⟨(HW3.out b hb).1, (HW3.out b hb).2.1⟩
          · exact HW1.out.lt b hb
        have kF : Kept (· = F) w9 ((w9.setCell ⟨F, 0, none⟩ (.int .i64 0)).setCell ⟨F, 1, none⟩ (.int .i64 0)) := ((Kept.refl (· = F) _).setCell (p := ⟨F, 0, none⟩) (.inl rfl) _).setCell (p := ⟨F, 1, none⟩) (.inl rfl) _
        refine ret_vf rfl rfl rfl (F5.out.set 0 0) ⟨KW.out.faultSet (Nat.le_of_eq HF.out.symm) _ _, ?_⟩
        rw [fin.out]
        refine ⟨a, n2, _, by rw [← hn5]; rfl, hst.to kF (fun b hb => ⟨(hlow b hb).2, by have := hlow b hb; have := HF.out; omega⟩) (fun _ h => h), fun b hb => ⟨by have := hlow b hb; omega, Nat.lt_of_lt_of_le (hlow b hb).2 kF.size⟩⟩
end Go.Proofs.YtlnhcgihpclpaaaGreatDoor

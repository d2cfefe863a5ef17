/- The program's reader of lines: its state; fail, at, sign. The program's reader of lines: is, need, take. The program's reader of lines: name, label. -/
import Derived.Test.YtlnhcgihpclpaaaGreatDoorLm11
import Derived.Test.YtlnhcgihpclpaaaGreatDoorTk3
import Derived.WalkLawsBesides
namespace Go.Proofs.YtlnhcgihpclpaaaGreatDoor
set_option linter.all false
open Go.RowKit

theorem bytes_beqL {a b : ByteArray} : (a.toList == b.toList) = decide (a = b) := by
  rw [Bool.eq_iff_iff, decide_eq_true_eq, beq_iff_eq, ByteArray.toList_eq, ByteArray.toList_eq]
  constructor
  · intro h
    obtain ⟨x⟩ := a; obtain ⟨y⟩ := b
    have : x = y := by rw [← Array.toList_inj]; exact h
    rw [this]
  · rintro rfl; rfl

/-- What the places of tokens come to. -/
def TokB (l : List LTok) : Prop := ∀ t ∈ l, t.at_ ≤ 1000000 ∧ t.text.size ≤ 1000000 ∧ (readQ t.text).2.2 ≤ 1000000 ∧ (t.kind = 2 → t.text.size ≠ 0 ∧ ∀ c ∈ t.text.data.toList, 48 ≤ c.toNat ∧ c.toNat ≤ 57) ∧ (t.kind = 1 → t.text.size ≠ 0)
/-- What the reader of numbers asks of the memory. -/
def RngAt (w : World) : Prop := ∃ ev, w.cell? ⟨4, 0, none⟩ = some ev ∧ (ev = .nilIface ∨ ∃ te pe, ev = .iface te pe)
/-- The reader's three cells at block N; its tokens lie in block T. -/
structure Psr (N T en n : Nat) (a : Option Addr) (c : Nat) (l : List LTok) (d : Nat) (w : World) : Prop where
  blk : w.heap[N]? = some (.cells #[.slice a n c, .int .i64 en, .int .i64 d] 64 (0, 0))
  num : n = l.length
  cap : n ≤ c
  toks : l ≠ [] → ∃ o, a = some ⟨T, o, none⟩ ∧ ∀ j u, (ltsC l)[j]? = some u → w.cell? ⟨T, o + j, none⟩ = some u
  ne : N ≠ T
  lt : T < w.heap.size
  small : c ≤ 9223372036854775807
  good : TokB l
  old : 4 < N
  rng : RngAt w
theorem Psr.ltN {N T en n c d : Nat} {a : Option Addr} {l : List LTok} {w : World} (h : Psr N T en n a c l d w) : N < w.heap.size := (Array.getElem?_eq_some_iff.1 h.blk).1
theorem Psr.c0 {N T en n c d : Nat} {a : Option Addr} {l : List LTok} {w : World} (h : Psr N T en n a c l d w) : w.cell? ⟨N, 0, none⟩ = some (.slice a n c) ∧ w.cell? ⟨N, 1, none⟩ = some (.int .i64 en) ∧ w.cell? ⟨N, 2, none⟩ = some (.int .i64 d) ∧ ∀ o, w.frozen? ⟨N, o, none⟩ = false := by
  refine ⟨?_, ?_, ?_, fun o => by simp [World.frozen?, h.blk]⟩ <;> (rw [cell_of_row w N _ _ _ _ h.blk]; rfl)
theorem Psr.kept {N T en n c d : Nat} {a : Option Addr} {l : List LTok} {w w' : World} {X : Nat → Prop} (h : Psr N T en n a c l d w) (hk : Kept X w w') (hx : ¬ X N) (hy : ¬ X T) (hz : ¬ X 4 := by exact fun h => h) : Psr N T en n a c l d w' :=
  ⟨by rw [hk.block N h.ltN hx]; exact h.blk, h.num, h.cap, fun hl => by obtain ⟨o, e, hc⟩ := h.toks hl; exact ⟨o, e, fun j u hu => (hk.cell h.lt hy).trans (hc j u hu)⟩, h.ne, Nat.lt_of_lt_of_le h.lt hk.size, h.small, h.good, h.old, by obtain ⟨ev, h1, h2⟩ := h.rng; exact ⟨ev, (hk.cell (Nat.lt_trans h.old h.ltN) hz).trans h1, h2⟩⟩
theorem Psr.head {N T en n c d : Nat} {a : Option Addr} {t : LTok} {r : List LTok} {w : World} (h : Psr N T en n a c (t :: r) d w) : ∃ o, a = some ⟨T, o, none⟩ ∧ w.cell? ⟨T, o, none⟩ = some (.int .i64 t.kind) ∧ w.cell? ⟨T, o + 1, none⟩ = some (.string t.text) ∧ w.cell? ⟨T, o + 2, none⟩ = some (.int .i64 t.at_) := by
  obtain ⟨o, e, hc⟩ := h.toks (by simp)
  have e2 : ltsC (t :: r) = ltC t ++ ltsC r := by simp [ltsC]
  rw [e2] at hc
  exact ⟨o, e, hc 0 _ rfl, hc 1 _ rfl, hc 2 _ rfl⟩
/-- The rest of the tokens, as the slice of them. -/
theorem Psr.rest {N T en n c d : Nat} {a : Option Addr} {t : LTok} {r : List LTok} {w : World} (h : Psr N T en n a c (t :: r) d w) :
    ∃ n' a' c', Hid (n' = r.length) ∧ (∀ wx, (Instr.slice 57 (.slice a n c) (some (.int .i64 1)) none none).run Tryz.prog wx = .ok (.slice a' n' c') wx) ∧ Psr N T en n' a' c' r d (w.setCell ⟨N, 0, none⟩ (.slice a' n' c')) := by
  obtain ⟨o, e, hc⟩ := h.toks (by simp)
  have hn := h.num; have hcap := h.cap
  rw [List.length_cons] at hn
  subst e
  have hne := h.ne
  refine ⟨n - 1, if c = 1 then some ⟨T, o, none⟩ else some ⟨T, o + 3, none⟩, c - 1, by unfold Hid; omega, fun wx => ?_, ?_⟩
  · have hsz : (sizeOf 87).run Tryz.prog wx = .ok 3 wx := by kernel_rfl
    have hle : (1 : Int) ≤ (n : Int) := by omega
    unfold Instr.slice Instr.sliceBounds Instr.sliceBound
    simp only [Sem.run_bind, run_underlying Tryz.underlying57, Result.andThen_ok, Sem.run_pure, asIntOf]
    rw [if_pos ⟨by decide, by omega⟩]
    simp only [Sem.run_pure, Result.andThen_ok, hsz]
    by_cases hc1 : c = 1
    · subst hc1; simp
    · have hc2 : ¬ c = Int.toNat 1 := by simpa using hc1
      rw [if_neg hc2, if_neg hc1]
      simp [Addr.add]
  · have hk : Kept (· = N) w (w.setCell ⟨N, 0, none⟩ (.slice (if c = 1 then some ⟨T, o, none⟩ else some ⟨T, o + 3, none⟩) (n - 1) (c - 1))) := (Kept.refl (· = N) w).setCell (p := ⟨N, 0, none⟩) (.inl rfl) _
    refine ⟨?_, by omega, by omega, fun hr => ?_, hne, Nat.lt_of_lt_of_le h.lt hk.size, by have := h.small; omega, fun u hu => h.good u (List.mem_cons_of_mem _ hu), h.old, by obtain ⟨ev, h1, h2⟩ := h.rng; exact ⟨ev, (hk.cell (Nat.lt_trans h.old h.ltN) (Nat.ne_of_lt h.old)).trans h1, h2⟩⟩
    · rw [row_setCell h.blk]; rfl
    · have hr0 : 0 < r.length := List.length_pos_iff.2 hr
      refine ⟨o + 3, by rw [if_neg (by omega)], fun j u hu => (hk.cell h.lt (fun e => hne e.symm)).trans ?_⟩
      rw [show o + 3 + j = o + (3 + j) by omega]
      refine hc _ _ ?_
      have e2 : ltsC (t :: r) = ltC t ++ ltsC r := by simp [ltsC]
      rw [e2, List.getElem?_append_right (by simp [ltC])]
      simpa [ltC] using hu
def lineOops (er : Er) : Value := .iface 61 (.agg #[.int .i64 er.1, .int .i64 er.2])
def ThrewL (er : Er) (e : Ending) : Prop := e = .panicked [{ v := lineOops er, recovered := false }]
set_option maxRecDepth 100000 in
theorem lfail_any (a : Value) (er : Int) (i : Nat) (w : World) : Calls Tryz.prog 48 #[a, .int .i64 er, .int .i64 i] w fun e w' => ThrewL (er, i) e ∧ w = w' := by
  go_enter Tryz.func48, Tryz.ntmps48
  go_wp2_with fail
  exact ⟨rfl, rfl, rfl⟩
set_option maxRecDepth 100000 in
set_option maxHeartbeats 1000000 in
theorem lat_any {N T en n c d : Nat} {a : Option Addr} {l : List LTok} {w : World} (h : Psr N T en n a c l d w) : Calls Tryz.prog 49 #[.pointer (some ⟨N, 0, none⟩)] w (IntW (atT en l) w) := by
  obtain ⟨c0, c1, c2, _⟩ := h.c0
  have hn := h.num
  cases l with
  | nil =>
    have z : ((n : Int) == 0) = true := by rw [hn]; rfl
    clear hn
    go_enter Tryz.func49, Tryz.ntmps49
    go_wp2_with fail
    go_ret
    exact ⟨rfl, rfl⟩
  | cons t r =>
    rw [List.length_cons] at hn
    have z : ((n : Int) == 0) = false := by simp; omega
    have h0 : 0 < n := by omega
    have h1 : (0 : Int) < (n : Int) := by omega
    obtain ⟨o, rfl, t0, t1, t2⟩ := h.head
    clear hn h
    go_enter Tryz.func49, Tryz.ntmps49
    go_wp2_with fail
    go_ret
    exact ⟨rfl, rfl⟩
set_option maxRecDepth 100000 in
set_option maxHeartbeats 1000000 in
theorem lsign_any {N T en n c d : Nat} {a : Option Addr} {l : List LTok} {w : World} (x : ByteArray) (h : Psr N T en n a c l d w) : Calls Tryz.prog 44 #[.pointer (some ⟨N, 0, none⟩), .string x] w (BoolW (signT x l) w) := by
  obtain ⟨c0, c1, c2, _⟩ := h.c0
  have hn := h.num
  cases l with
  | nil =>
    have z : decide ((0 : Int) < (n : Int)) = false := by rw [hn]; rfl
    have z' : decide (0 < n) = false := by rw [hn]; rfl
    clear hn
    go_enter Tryz.func44, Tryz.ntmps44
    go_wp2_with fail
    go_ret
    exact ⟨rfl, rfl⟩
  | cons t r =>
    rw [List.length_cons] at hn
    have h0 : 0 < n := by omega
    have h1 : (0 : Int) < (n : Int) := by omega
    have z : decide ((0 : Int) < (n : Int)) = true := decide_eq_true h1
    have z' : decide (0 < n) = true := decide_eq_true h0
    obtain ⟨o, rfl, t0, t1, t2⟩ := h.head
    clear hn h
    by_cases hk : t.kind = 5
    · have y : (t.kind == 5) = true := by simpa using hk
      by_cases hx : t.text = x
      · have y2 : (t.text.toList == x.toList) = true := by rw [bytes_beqL]; simpa using hx
        have fin : Hid (signT x (t :: r) = true) := decide_eq_true ⟨hk, hx⟩
        clear hk hx
        go_enter Tryz.func44, Tryz.ntmps44
        go_wp2_with fail
        go_ret
        exact ⟨by rw [fin.out]; rfl, rfl⟩
      · have y2 : (t.text.toList == x.toList) = false := by rw [bytes_beqL]; simpa using hx
        have fin : Hid (signT x (t :: r) = false) := decide_eq_false (fun h => hx h.2)
        clear hk hx
        go_enter Tryz.func44, Tryz.ntmps44
        go_wp2_with fail
        go_ret
        exact ⟨by rw [fin.out]; rfl, rfl⟩
    · have y : (t.kind == 5) = false := by simpa using hk
      have fin : Hid (signT x (t :: r) = false) := decide_eq_false (fun h => hk h.1)
      clear hk
      go_enter Tryz.func44, Tryz.ntmps44
      go_wp2_with fail
      go_ret
      exact ⟨by rw [fin.out]; rfl, rfl⟩
end Go.Proofs.YtlnhcgihpclpaaaGreatDoor

namespace Go.Proofs.YtlnhcgihpclpaaaGreatDoor
set_option linter.all false
open Go.RowKit

def PsR (N T en : Nat) (l : List LTok) (d : Nat) (w : World) : Prop := ∃ n a c, Psr N T en n a c l d w
theorem PsR.kept {N T en d : Nat} {l : List LTok} {w w' : World} {X : Nat → Prop} (h : PsR N T en l d w) (hk : Kept X w w') (hx : ¬ X N) (hy : ¬ X T) (hz : ¬ X 4 := by exact fun h => h) : PsR N T en l d w' := by
  obtain ⟨n, a, c, h⟩ := h; exact ⟨n, a, c, h.kept hk hx hy hz⟩
def IsLQ (x : ByteArray) (N T en : Nat) (l : List LTok) (d : Nat) (w : World) (e : Ending) (w' : World) : Prop :=
  e = .returned (.bool (signT x l)) ∧ PsR N T en (if signT x l = true then l.tail else l) d w' ∧ Kept (· = N) w w'
set_option maxRecDepth 100000 in
set_option maxHeartbeats 1000000 in
theorem lis_any {N T en d : Nat} {l : List LTok} {w : World} (x : ByteArray) (h : PsR N T en l d w) : Calls Tryz.prog 46 #[.pointer (some ⟨N, 0, none⟩), .string x] w (IsLQ x N T en l d w) := by
  obtain ⟨n, a, c, h⟩ := h
  have HS := Lib.hid (lsign_any x h)
  cases hs : signT x l with
  | false =>
    rw [hs] at HS
    have fin : Hid (IsLQ x N T en l d w (.returned (.bool false)) w) := by unfold Hid IsLQ; rw [hs]; exact ⟨rfl, ⟨n, a, c, h⟩, Kept.refl _ _⟩
    clear h hs
    go_enter Tryz.func46, Tryz.ntmps46
    go_wp2_with (go_at_call 44; (refine HS.out.mono ?_); rintro e w' ⟨rfl, hw_⟩; obtain rfl := hw_.symm)
    go_ret
    exact fin.out
  | true =>
    rw [hs] at HS
    cases l with
    | nil => cases hs
    | cons t r =>
      obtain ⟨c0, c1, c2, cf⟩ := h.c0
      obtain ⟨n', a', c', hn', hsl, hR⟩ := h.rest
      have hs1 := hsl w
      have cf0 := cf 0
      have fin : Hid (IsLQ x N T en (t :: r) d w (.returned (.bool true)) (w.setCell ⟨N, 0, none⟩ (.slice a' n' c'))) := by unfold Hid IsLQ; rw [hs]; exact ⟨rfl, ⟨_, _, _, hR⟩, (Kept.refl (· = N) w).setCell (p := ⟨N, 0, none⟩) (.inl rfl) _⟩
      clear h hs hsl hR cf
      go_enter Tryz.func46, Tryz.ntmps46
      go_wp2_with (go_at_call 44; (refine HS.out.mono ?_); rintro e w' ⟨rfl, hw_⟩; obtain rfl := hw_.symm)
      go_ret
      exact fin.out
def NeedLQ (x : ByteArray) (N T en : Nat) (l : List LTok) (d : Nat) (w : World) (e : Ending) (w' : World) : Prop :=
  Kept (· = N) w w' ∧ match needT x en l with
    | .ok r => e = .returned (.tuple #[]) ∧ PsR N T en r d w'
    | .error er => ThrewL er e
set_option maxRecDepth 100000 in
set_option maxHeartbeats 1000000 in
theorem lneed_any {N T en d : Nat} {l : List LTok} {w : World} (x : ByteArray) (h : PsR N T en l d w) : Calls Tryz.prog 67 #[.pointer (some ⟨N, 0, none⟩), .string x] w (NeedLQ x N T en l d w) := by
  have HS := Lib.hid (lis_any x h)
  unfold IsLQ at HS
  cases hs : signT x l with
  | true =>
    rw [hs] at HS
    have e2 : Hid (needT x en l = .ok l.tail) := by unfold Hid needT; rw [if_pos hs]
    clear h hs
    go_enter Tryz.func67, Tryz.ntmps67
    go_wp2_with (go_at_call 46; (refine HS.out.mono ?_); rintro e w1 ⟨rfl, r1_, k1_⟩; have R1 := Lib.hid r1_; have K1 := Lib.hid k1_; clear r1_ k1_)
    first | go_end0 | (refine bodyPost_ret (results_none rfl _ _ _) rfl ?_)
    refine ⟨K1.out, ?_⟩
    rw [e2.out]
    exact ⟨rfl, R1.out⟩
  | false =>
    rw [hs] at HS
    have e2 : Hid (needT x en l = .error (2, atT en l)) := by unfold Hid needT; rw [if_neg (by simp [hs])]
    clear h hs
    go_enter Tryz.func67, Tryz.ntmps67
    go_wp2_with (first
      | (go_at_call 46; (refine HS.out.mono ?_); rintro e w1 ⟨rfl, r1_, k1_⟩; obtain ⟨n1, a1, c1, r1_⟩ := r1_; have R1 := Lib.hid r1_; have K1 := Lib.hid k1_; clear r1_ k1_)
      | (go_at_call 49; (refine (lat_any R1.out).mono ?_); rintro e w' ⟨rfl, hw_⟩; obtain rfl := hw_.symm)
      | (go_at_call 48; (refine (lfail_any _ 2 (atT en l) w1).mono ?_); rintro e w2 ⟨rfl, rfl⟩))
    refine ⟨rfl, K1.out, ?_⟩
    rw [e2.out]
    exact rfl
def ltV (t : LTok) : Value := .agg #[.int .i64 t.kind, .string t.text, .int .i64 t.at_]
def set3 (w : World) (M : Nat) (c0 c1 c2 : Value) : World := ((w.setCell ⟨M, 0, none⟩ c0).setCell ⟨M, 1, none⟩ c1).setCell ⟨M, 2, none⟩ c2
theorem Thr.set3 {M : Nat} {t : LTok} {w : World} (h : Thr M t w) (t2 : LTok) : Thr M t2 (set3 w M (.int .i64 t2.kind) (.string t2.text) (.int .i64 t2.at_)) := by
  unfold Thr at *
  simp [Go.Proofs.YtlnhcgihpclpaaaGreatDoor.set3, World.setCell, Array.getElem?_modify, h]
theorem Kept.set3 {X : Nat → Prop} {a w : World} (h : Kept X a w) {M : Nat} (hM : X M ∨ a.heap.size ≤ M) (c0 c1 c2 : Value) : Kept X a (set3 w M c0 c1 c2) :=
  ((h.setCell (p := ⟨M, 0, none⟩) hM _).setCell (p := ⟨M, 1, none⟩) hM _).setCell (p := ⟨M, 2, none⟩) hM _
theorem ret_ltok {f : Func} {tmps : Array Value} {M : Nat} {t : LTok} {w2 : World} {Q : Ending → World → Prop} (hres : f.results = #[.cell 4 87]) (ht : tmps.getD 4 undef = .pointer (some ⟨M, 0, none⟩)) (hF : Thr M t w2)
    (hq : Q (.returned (ltV t)) w2) : bodyPost Tryz.prog f Q .ret ⟨tmps, []⟩ w2 := by
  obtain ⟨h0, h1, h2, _⟩ := hF.cells
  have ht' : tmps[4]?.getD undef = .pointer (some ⟨M, 0, none⟩) := by rw [← ht, Array.getD_eq_getD_getElem?]
  exact bodyPost_ret (v := ltV t) (by simp [results, hres, go_sem, ht', h0, h1, h2, ltV]) rfl hq
def TakeLQ (k : Int) (N T en : Nat) (l : List LTok) (d : Nat) (w : World) (e : Ending) (w' : World) : Prop :=
  Kept (· = N) w w' ∧ match takeT k en l with
    | .ok (t, r) => e = .returned (ltV t) ∧ PsR N T en r d w'
    | .error er => ThrewL er e
set_option maxRecDepth 100000 in
set_option maxHeartbeats 2000000 in
theorem ltake_any {N T en d : Nat} {l : List LTok} {w : World} (k : Int) (h : PsR N T en l d w) : Calls Tryz.prog 65 #[.pointer (some ⟨N, 0, none⟩), .int .i64 k] w (TakeLQ k N T en l d w) := by
  obtain ⟨n, a, c, h⟩ := h
  have hN := h.ltN; have hT := h.lt; have hne := h.ne; have h7 := h.old
  obtain ⟨w0, hw0⟩ : ∃ w0, w0 = w.alloc (.cells #[.int .i64 0, .string ⟨#[]⟩, .int .i64 0] 87) := ⟨_, rfl⟩
  have k0 : Kept Nix w w0 := by rw [hw0]; exact (Kept.refl _ _).alloc _
  have Z0 : Hid (Thr w.heap.size ⟨0, ⟨#[]⟩, 0⟩ w0) := by rw [hw0]; exact heap_alloc_new w _
  have P0 := h.kept k0 (fun h => h) (fun h => h)
  have K0 := Lib.hid k0; have HW0 := Lib.hid hw0
  obtain ⟨c0, c1, c2, cf⟩ := P0.c0
  have hn := P0.num
  have HA := Lib.hid (lat_any P0)
  clear h k0 hw0
  cases l with
  | nil =>
    have z : ((n : Int) == 0) = true := by rw [hn]; rfl
    clear hn cf P0
    go_enter Tryz.func65, Tryz.ntmps65
    go_upto_region 1 with fail
    rw [← HW0.out]
    go_wp2_with (first
      | (go_at_call 49; (refine HA.out.mono ?_); rintro e w' ⟨rfl, hw_⟩; obtain rfl := hw_.symm)
      | (go_at_call 48; (refine (lfail_any _ 2 (atT en []) w0).mono ?_); rintro e w2 ⟨rfl, rfl⟩))
    exact ⟨rfl, K0.out.more (fun _ h => h.elim), rfl⟩
  | cons t r =>
    rw [List.length_cons] at hn
    have h0 : 0 < n := by omega
    have h1 : (0 : Int) < (n : Int) := by omega
    have z : ((n : Int) == 0) = false := by simp; omega
    obtain ⟨o, rfl, t0, t1, t2⟩ := P0.head
    by_cases hk : t.kind = k
    · have y : (t.kind != k) = false := by simpa using hk
      have fin : Hid (takeT k en (t :: r) = .ok (t, r)) := by unfold Hid; show (if t.kind = k then Except.ok (t, r) else Except.error (2, t.at_)) = _; rw [if_pos hk]
      obtain ⟨w1, hw1⟩ : ∃ w1, w1 = w0.alloc (.cells #[.int .i64 t.kind, .string t.text, .int .i64 t.at_] 87) := ⟨_, rfl⟩
      have k1 : Kept Nix w0 w1 := by rw [hw1]; exact (Kept.refl _ _).alloc _
      have T1 : Hid (Thr w0.heap.size t w1) := by rw [hw1]; exact heap_alloc_new w0 _
      have P1 := P0.kept k1 (fun h => h) (fun h => h)
      obtain ⟨q0, q1, q2, qf⟩ := P1.c0
      obtain ⟨n', a', c', hn', hsl, hR⟩ := P1.rest
      have hs1 := hsl w1
      have qf0 := qf 0
      have kN : Kept (· = N) w1 (w1.setCell ⟨N, 0, none⟩ (.slice a' n' c')) := (Kept.refl (· = N) w1).setCell (p := ⟨N, 0, none⟩) (.inl rfl) _
      obtain ⟨w2, hw2⟩ : ∃ w2, w2 = w1.setCell ⟨N, 0, none⟩ (.slice a' n' c') := ⟨_, rfl⟩
      rw [← hw2] at hR kN
      have hz0 : w0.heap.size = w.heap.size + 1 := by rw [HW0.out]; simp
      have T2 := Lib.hid (T1.out.kept kN (by omega)); have Z2 := Lib.hid ((Z0.out.kept k1 (fun h => h)).kept kN (by omega))
      have HR2 := Lib.hid hR; have KN := Lib.hid kN; have K1 := Lib.hid k1
      have HW1 := Lib.hid hw1; have HW2 := Lib.hid hw2; have HZ0 := Lib.hid hz0
      obtain ⟨M5, hM5⟩ : ∃ M, M = w0.heap.size := ⟨_, rfl⟩
      obtain ⟨M4, hM4⟩ : ∃ M, M = w.heap.size := ⟨_, rfl⟩
      rw [← hM5] at T1 T2
      rw [← hM4] at Z0 Z2
      have HM5 := Lib.hid hM5; have HM4 := Lib.hid hM4
      clear hn hk hw1 hw2 hR kN k1 hsl qf P0 P1 hz0 hM5 hM4
      go_enter Tryz.func65, Tryz.ntmps65
      go_upto_region 1 with fail
      rw [← HW0.out, ← HM4.out]
      go_upto_region 4 with fail
      rw [← HW1.out, ← HM5.out]
      go_upto_region 5 with fail
      rw [← HW2.out]
      obtain ⟨u0, u1, u2, _⟩ := T2.out.cells
      obtain ⟨z0, z1, z2, zf⟩ := Z2.out.cells
      have zf0 := zf 0; have zf1 := zf 1; have zf2 := zf 2
      clear zf
      go_wp2_with fail
      refine ret_ltok rfl rfl (Z2.out.set3 t) ⟨?_, ?_⟩
      · exact (((K0.out.trans K1.out).more (fun _ h => h.elim)).trans KN.out).set3 (.inr (Nat.le_of_eq HM4.out.symm)) _ _ _
      · rw [fin.out]
        have k3 : Kept (· = M4) w2 (Go.Proofs.YtlnhcgihpclpaaaGreatDoor.set3 w2 M4 (.int .i64 t.kind) (.string t.text) (.int .i64 t.at_)) := (Kept.refl (· = M4) w2).set3 (.inl rfl) _ _ _
        exact ⟨rfl, _, _, _, HR2.out.kept k3 (by have := HM4.out; omega) (by have := HM4.out; omega) (by have := HM4.out; omega)⟩
    · have y : (t.kind != k) = true := by simpa using hk
      have fin : Hid (takeT k en (t :: r) = .error (2, t.at_)) := by unfold Hid; show (if t.kind = k then Except.ok (t, r) else Except.error (2, t.at_)) = _; rw [if_neg hk]
      clear hn hk cf P0
      go_enter Tryz.func65, Tryz.ntmps65
      go_upto_region 1 with fail
      rw [← HW0.out]
      go_wp2_with (first
        | (go_at_call 49; (refine HA.out.mono ?_); rintro e w' ⟨rfl, hw_⟩; obtain rfl := hw_.symm)
        | (go_at_call 48; (refine (lfail_any _ 2 (atT en (t :: r)) w0).mono ?_); rintro e w2 ⟨rfl, rfl⟩))
      refine ⟨rfl, K0.out.more (fun _ h => h.elim), ?_⟩
      rw [fin.out]
      exact rfl
end Go.Proofs.YtlnhcgihpclpaaaGreatDoor

namespace Go.Proofs.YtlnhcgihpclpaaaGreatDoor
set_option linter.all false
open Go.RowKit

def NameLQ (N T en : Nat) (l : List LTok) (d : Nat) (w : World) (e : Ending) (w' : World) : Prop :=
  Kept (· = N) w w' ∧ match nameT en l with
    | .ok (x, r) => e = .returned (.string x) ∧ PsR N T en r d w'
    | .error er => ThrewL er e
theorem PsR.ltN {N T en d : Nat} {l : List LTok} {w : World} (h : PsR N T en l d w) : N < w.heap.size ∧ T < w.heap.size ∧ N ≠ T ∧ 4 < N := by
  obtain ⟨n, a, c, h⟩ := h; exact ⟨h.ltN, h.lt, h.ne, h.old⟩
set_option maxRecDepth 100000 in
set_option maxHeartbeats 2000000 in
theorem lname_any {N T en d : Nat} {l : List LTok} {w : World} (h : PsR N T en l d w) : Calls Tryz.prog 43 #[.pointer (some ⟨N, 0, none⟩)] w (NameLQ N T en l d w) := by
  have HT := Lib.hid (ltake_any 1 h)
  unfold TakeLQ at HT
  cases ht : takeT 1 en l with
  | error er =>
    rw [ht] at HT
    have fin : Hid (nameT en l = .error er) := by unfold Hid nameT; rw [ht]
    clear h ht
    go_enter Tryz.func43, Tryz.ntmps43
    go_wp2_with (go_at_call 65; (refine HT.out.mono ?_); rintro e w1 ⟨k1_, rfl⟩; have K1 := Lib.hid k1_; clear k1_)
    refine ⟨rfl, K1.out, ?_⟩
    rw [fin.out]
    exact rfl
  | ok x =>
    obtain ⟨t, r⟩ := x
    rw [ht] at HT
    dsimp only at HT
    unfold ltV at HT
    go_enter Tryz.func43, Tryz.ntmps43
    go_upto_region 2 with (go_at_call 65; (refine HT.out.mono ?_); rintro e w1 ⟨k1_, rfl, r1_⟩; have K1 := Lib.hid k1_; have R1 := Lib.hid r1_; clear k1_ r1_)
    obtain ⟨w2, hw2⟩ : ∃ w2, w2 = w1.alloc (.cells #[.int .i64 t.kind, .string t.text, .int .i64 t.at_] 87) := ⟨_, rfl⟩
    have T2 : Hid (Thr w1.heap.size t w2) := by rw [hw2]; exact heap_alloc_new w1 _
    have k2 : Kept Nix w1 w2 := by rw [hw2]; exact (Kept.refl _ _).alloc _
    have R2 := Lib.hid (R1.out.kept k2 (fun h => h) (fun h => h))
    have K2 : Hid (Kept (· = N) w w2) := K1.out.trans (k2.more (fun _ h => h.elim))
    rw [← hw2]
    obtain ⟨M, hM⟩ : ∃ M, M = w1.heap.size := ⟨_, rfl⟩
    rw [← hM] at T2 ⊢
    clear hw2 k2 hM
    obtain ⟨t0, t1, t2, _⟩ := T2.out.cells
    by_cases hl : 16 < t.text.size
    · have d1 : decide ((16 : Int) < (t.text.size : Int)) = true := decide_eq_true (by omega)
      have d2 : decide (16 < t.text.size) = true := decide_eq_true hl
      have fin : Hid (nameT en l = .error (7, t.at_)) := by unfold Hid nameT; rw [ht]; dsimp only; rw [if_pos hl]
      clear h ht hl
      go_wp2_with (go_at_call 48; (refine (lfail_any _ 7 t.at_ w2).mono ?_); rintro e w3 ⟨rfl, rfl⟩)
      refine ⟨rfl, K2.out, ?_⟩
      rw [fin.out]
      exact rfl
    · have d1 : decide ((16 : Int) < (t.text.size : Int)) = false := decide_eq_false (by omega)
      have d2 : decide (16 < t.text.size) = false := decide_eq_false hl
      have fin : Hid (nameT en l = .ok (t.text, r)) := by unfold Hid nameT; rw [ht]; dsimp only; rw [if_neg hl]
      clear h ht hl
      go_wp2_with fail
      go_ret
      refine ⟨K2.out, ?_⟩
      rw [fin.out]
      exact ⟨rfl, R2.out⟩
def LabelLQ (N T en : Nat) (l : List LTok) (d : Nat) (w : World) (e : Ending) (w' : World) : Prop :=
  Kept (· = N) w w' ∧ match labelT en l with
    | .ok (x, r) => e = .returned (.string x) ∧ PsR N T en r d w'
    | .error er => ThrewL er e
set_option maxRecDepth 100000 in
set_option maxHeartbeats 2000000 in
theorem llabel_any {N T en d : Nat} {l : List LTok} {w : World} (h : PsR N T en l d w) : Calls Tryz.prog 70 #[.pointer (some ⟨N, 0, none⟩)] w (LabelLQ N T en l d w) := by
  have HA := Lib.hid (lneed_any ⟨#[40]⟩ h)
  unfold NeedLQ at HA
  have e40 : (⟨#[40]⟩ : ByteArray) = bs [40] := rfl
  have e41 : (⟨#[41]⟩ : ByteArray) = bs [41] := rfl
  rw [e40] at HA
  cases h1 : needT (bs [40]) en l with
  | error er =>
    rw [h1] at HA
    have fin : Hid (labelT en l = .error er) := by unfold Hid labelT; rw [h1]
    clear h h1 e41
    rw [← e40] at HA
    clear e40
    go_enter Tryz.func70, Tryz.ntmps70
    go_wp2_with (go_at_call 67; (with_reducible refine HA.out.mono ?_); rintro e w1 ⟨k1_, rfl⟩; have K1 := Lib.hid k1_; clear k1_)
    refine ⟨rfl, K1.out, ?_⟩
    rw [fin.out]
    exact rfl
  | ok r1 =>
    rw [h1] at HA
    dsimp only at HA
    rw [← e40] at HA
    have HB : Hid (∀ wy, PsR N T en r1 d wy → Calls Tryz.prog 43 #[.pointer (some ⟨N, 0, none⟩)] wy (NameLQ N T en r1 d wy)) := fun wy hy => lname_any hy
    unfold NameLQ at HB
    cases h2 : nameT en r1 with
    | error er =>
      rw [h2] at HB
      have fin : Hid (labelT en l = .error er) := by unfold Hid labelT; rw [h1]; dsimp only; rw [h2]
      clear h h1 h2 e40 e41
      go_enter Tryz.func70, Tryz.ntmps70
      go_wp2_with (first
        | (go_at_call 67; (with_reducible refine HA.out.mono ?_); rintro e w1 ⟨k1_, rfl, r1_⟩; have K1 := Lib.hid k1_; have R1 := Lib.hid r1_; clear k1_ r1_)
        | (go_at_call 43; (refine (HB.out w1 R1.out).mono ?_); rintro e w2 ⟨k2_, rfl⟩; have K2 := Lib.hid k2_; clear k2_))
      refine ⟨rfl, K1.out.trans K2.out, ?_⟩
      rw [fin.out]
      exact rfl
    | ok x =>
      obtain ⟨nm, r2⟩ := x
      rw [h2] at HB
      dsimp only at HB
      have HC : Hid (∀ wy, PsR N T en r2 d wy → Calls Tryz.prog 67 #[.pointer (some ⟨N, 0, none⟩), .string ⟨#[41]⟩] wy (NeedLQ ⟨#[41]⟩ N T en r2 d wy)) := fun wy hy => lneed_any _ hy
      unfold NeedLQ at HC
      rw [e41] at HC
      cases h3 : needT (bs [41]) en r2 with
      | error er =>
        rw [h3] at HC
        have fin : Hid (labelT en l = .error er) := by unfold Hid labelT; rw [h1]; dsimp only; rw [h2]; dsimp only; rw [h3]
        rw [← e41] at HC
        clear h h1 h2 h3 e40 e41
        go_enter Tryz.func70, Tryz.ntmps70
        go_wp2_with (first
          | (go_at_call 67; (with_reducible refine HA.out.mono ?_); rintro e w1 ⟨k1_, rfl, r1_⟩; have K1 := Lib.hid k1_; have R1 := Lib.hid r1_; clear k1_ r1_)
          | (go_at_call 43; (refine (HB.out w1 R1.out).mono ?_); rintro e w2 ⟨k2_, rfl, r2_⟩; have K2 := Lib.hid k2_; have R2 := Lib.hid r2_; clear k2_ r2_)
          | (go_at_call 67; (with_reducible refine (HC.out w2 R2.out).mono ?_); rintro e w3 ⟨k3_, rfl⟩; have K3 := Lib.hid k3_; clear k3_))
        refine ⟨rfl, (K1.out.trans K2.out).trans K3.out, ?_⟩
        rw [fin.out]
        exact rfl
      | ok r3 =>
        rw [h3] at HC
        dsimp only at HC
        have fin : Hid (labelT en l = .ok (nm, r3)) := by unfold Hid labelT; rw [h1]; dsimp only; rw [h2]; dsimp only; rw [h3]
        rw [← e41] at HC
        clear h h1 h2 h3 e40 e41
        go_enter Tryz.func70, Tryz.ntmps70
        go_wp2_with (first
          | (go_at_call 67; (with_reducible refine HA.out.mono ?_); rintro e w1 ⟨k1_, rfl, r1_⟩; have K1 := Lib.hid k1_; have R1 := Lib.hid r1_; clear k1_ r1_)
          | (go_at_call 43; (refine (HB.out w1 R1.out).mono ?_); rintro e w2 ⟨k2_, rfl, r2_⟩; have K2 := Lib.hid k2_; have R2 := Lib.hid r2_; clear k2_ r2_)
          | (go_at_call 67; (with_reducible refine (HC.out w2 R2.out).mono ?_); rintro e w3 ⟨k3_, rfl, r3_⟩; have K3 := Lib.hid k3_; have R3 := Lib.hid r3_; clear k3_ r3_))
        go_ret
        refine ⟨(K1.out.trans K2.out).trans K3.out, ?_⟩
        rw [fin.out]
        exact ⟨rfl, R3.out⟩
end Go.Proofs.YtlnhcgihpclpaaaGreatDoor

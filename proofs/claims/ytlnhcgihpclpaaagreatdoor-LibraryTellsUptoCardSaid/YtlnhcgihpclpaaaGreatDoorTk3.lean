/- The program's lexer: Line. -/
import Derived.Test.YtlnhcgihpclpaaaGreatDoorLm12
namespace Go.Proofs.YtlnhcgihpclpaaaGreatDoor
set_option linter.all false
open Go.RowKit

/-- A token's three cells at block M. -/
def Thr (M : Nat) (t : LTok) (w : World) : Prop := w.heap[M]? = some (.cells #[.int .i64 t.kind, .string t.text, .int .i64 t.at_] 87 (0, 0))
theorem Thr.lt {M : Nat} {t : LTok} {w : World} (h : Thr M t w) : M < w.heap.size := (Array.getElem?_eq_some_iff.1 h).1
theorem Thr.kept {M : Nat} {t : LTok} {w w' : World} {X : Nat → Prop} (h : Thr M t w) (hk : Kept X w w') (hx : ¬ X M) : Thr M t w' := by
  unfold Thr; rw [hk.block M h.lt hx]; exact h
theorem Thr.cells {M : Nat} {t : LTok} {w : World} (h : Thr M t w) : w.cell? ⟨M, 0, none⟩ = some (.int .i64 t.kind) ∧ w.cell? ⟨M, 1, none⟩ = some (.string t.text) ∧ w.cell? ⟨M, 2, none⟩ = some (.int .i64 t.at_) ∧ ∀ o, w.frozen? ⟨M, o, none⟩ = false := by
  unfold Thr at h
  refine ⟨?_, ?_, ?_, fun o => by simp [World.frozen?, h]⟩ <;> (rw [cell_of_row w M _ _ _ _ h]; rfl)
theorem Thr.set {M : Nat} {k : Int} {x : ByteArray} {a : Nat} {w : World} (h : Thr M ⟨k, x, a⟩ w) (k2 : Int) (x2 : ByteArray) : Thr M ⟨k2, x2, a⟩ ((w.setCell ⟨M, 0, none⟩ (.int .i64 k2)).setCell ⟨M, 1, none⟩ (.string x2)) := by
  unfold Thr at *
  simp [World.setCell, Array.getElem?_modify, h]
theorem infoTok : (Tryz.prog.info? 87).map (fun i => (i.zero, i.size, i.bytes)) = some (some (.agg #[.int .i64 0, .string ⟨#[]⟩, .int .i64 0]), 3, 32) := by kernel_rfl
theorem wpList_app_tok {ops : Array Oper} {rest : List Oper} {o : Oper} {a : Act} {Q : Exit → Act → World → Prop} {w : World} (hgd : o.guard = none) (s x : Operand)
    (ho : o.op = .call { callee := .builtin .append, args := #[s, x], argTypes := #[57, 57] })
    (v : Value) (n : Nat) (l : List LTok) (t : LTok) (hnd : n = l.length) (hs : a.eval s = v) (B : Nat) (hown : Win w B 87 3 v n (ltsC l)) (g : Nat) (hx : a.eval x = .slice (some ⟨g, 0, none⟩) 1 1)
    (hg : Thr g t w) (hn : l.length ≤ 1000000) (hB : B ≤ w.heap.size)
    (h : ∀ a' c' n' w', Hid (n' = (l ++ [t]).length) → Win w' B 87 3 (.slice a' n' c') n' (ltsC (l ++ [t])) → Kept (fun b => B ≤ b) w w' → wpList Tryz.prog ops Q rest (a.put o.dst (.slice a' n' c')) w') :
    wpList Tryz.prog ops Q (o :: rest) a w := by
  obtain ⟨i0, hi0, hz0, hz1, hz2⟩ := info_parts infoTok
  have hsr : Src Tryz.prog 3 57 (.slice (some ⟨g, 0, none⟩) 1 1) 1 (ltC t) w :=
    Src.ofSlice _ Tryz.underlying57 _ _ _ _ rfl (World.news_of_block (fr := (0, 0)) (cs := #[.int .i64 t.kind, .string t.text, .int .i64 t.at_]) hg) (by intro u hu; simp [ltC] at hu; rcases hu with rfl | rfl | rfl <;> rfl)
  refine wpList_append_win w hgd s x _ _ ho B 87 i0 (.agg #[.int .i64 0, .string ⟨#[]⟩, .int .i64 0]) 3 32 Tryz.underlying57 hi0 hz0 hz1 hz2 rfl v n (ltsC l) hs hown _ 1 _ hx hsr (by unfold maxLen; omega) (by omega) hB ?_
  intro a' c' w' hW hgr _
  have e : ltsC l ++ ltC t = ltsC (l ++ [t]) := by rw [ltsC_append, ltsC_one]
  rw [e] at hW
  exact h a' c' _ w' (by unfold Hid; rw [List.length_append, hnd]; rfl) hW ((Kept.refl _ w).grown hgr fun k hk => .inl (hown.lt k hk).1)
theorem has_byte (l : List UInt8) (x : UInt8) : decide (0 ≤ Lib.indexByte l x) = decide (x ∈ l) := by
  rw [decide_eq_decide]
  induction l with
  | nil => simp [Lib.indexByte]
  | cons y r ih =>
    rw [Lib.indexByte]
    by_cases hx : y = x
    · subst hx; simp
    · have h1 : (y == x) = false := by simpa using hx
      have h2 := Lib.indexByte_ge r x
      rw [h1]
      simp only [Bool.false_eq_true, if_false, List.mem_cons]
      by_cases h3 : Lib.indexByte r x = -1
      · have h4 : (Lib.indexByte r x == -1) = true := by simpa using h3
        rw [h4]
        simp only [if_true]
        constructor
        · intro h; omega
        · rintro (h | h)
          · exact absurd h.symm hx
          · have := ih.2 h; omega
      · have h4 : (Lib.indexByte r x == -1) = false := by simpa using h3
        rw [h4]
        simp only [Bool.false_eq_true, if_false]
        constructor
        · intro _; exact .inr (ih.1 (by omega))
        · intro _; omega
theorem sign_index (c : UInt8) : decide ((0 : Int) ≤ Lib.indexByte (⟨#[61, 63, 38, 43, 45, 42, 47, 37, 40, 41, 60, 62, 44, 58, 36]⟩ : ByteArray).data.toList ((c.toNat : Int)).toNat.toUInt8) = decide (c.toNat ∈ signL) := by
  have e : ((c.toNat : Int)).toNat.toUInt8 = c := by rw [Int.toNat_natCast]; exact UInt8.ofNat_toNat
  rw [has_byte, e, decide_eq_decide]
  have key : ∀ l : List UInt8, c ∈ l ↔ c.toNat ∈ l.map (·.toNat) := by
    intro l
    rw [List.mem_map]
    exact ⟨fun h => ⟨c, h, rfl⟩, fun ⟨d, hd, e⟩ => by rw [← UInt8.toNat_inj.1 e]; exact hd⟩
  rw [key]
  exact Iff.rfl
theorem prefix_colon {s : ByteArray} {k : Nat} (h : k < s.size) : Lib.hasPrefix (s.extract k s.size).data.toList (⟨#[58, 61]⟩ : ByteArray).data.toList = decide (s[k].toNat = 58 ∧ peek s (k + 1) = 61) := by
  rw [extract_drop, drop_cons h, Bool.eq_iff_iff, decide_eq_true_eq]
  show ([58, 61] : List UInt8).isPrefixOf (s[k] :: s.data.toList.drop (k + 1)) = true ↔ _
  have e1 : ∀ (c : UInt8) (n : UInt8), (n == c) = true ↔ c.toNat = n.toNat := fun c n => by rw [beq_iff_eq]; exact ⟨fun h => by rw [h], fun h => (UInt8.toNat_inj.1 h).symm⟩
  by_cases h2 : k + 1 < s.size
  · rw [drop_cons h2, peek_at h2]
    simp only [List.isPrefixOf, Bool.and_true, Bool.and_eq_true, e1]
    constructor
    · rintro ⟨a, b⟩; exact ⟨a, by rw [b]; rfl⟩
    · rintro ⟨a, b⟩
      have b' : s[k + 1].toNat = 61 := by omega
      exact ⟨a, b'⟩
  · rw [drop_end (by omega)]
    have hp : peek s (k + 1) = -1 := by unfold peek; rw [dif_neg h2]
    rw [hp]
    simp [List.isPrefixOf]
theorem colon_text {s : ByteArray} {k : Nat} (h : k < s.size) (h2 : s[k].toNat = 58 ∧ peek s (k + 1) = 61) : s.extract k (k + 2) = ⟨#[58, 61]⟩ := by
  have hl : k + 1 < s.size := peek_lt (by omega)
  have h3 := h2.2
  rw [peek_at hl] at h3
  have a : s[k] = 58 := UInt8.toNat_inj.1 h2.1
  have b : s[k + 1] = 61 := UInt8.toNat_inj.1 (by show s[k + 1].toNat = 61; omega)
  apply ByteArray.ext
  apply Array.toList_inj.1
  rw [extract_take, drop_cons h, drop_cons hl, a, b]
  rfl
/-- What Line answers. -/
def LexQ (s : ByteArray) (w : World) (e : Ending) (w' : World) : Prop :=
  Kept Nix w w' ∧ match lexF s with
    | .ok l => ∃ a c, e = .returned (.tuple #[.slice a l.length c, .agg #[.int .i64 0, .int .i64 0]]) ∧ Win w' w.heap.size 87 3 (.slice a l.length c) l.length (ltsC l)
    | .error er => e = .returned (.tuple #[.slice none 0 0, .agg #[.int .i64 er.1, .int .i64 er.2]])
theorem lex_bad {s : ByteArray} {w : World} {er : Er} {w' : World} (h : lexF s = .error er) (k : Kept Nix w w') : LexQ s w (.returned (.tuple #[.slice none 0 0, .agg #[.int .i64 er.1, .int .i64 er.2]])) w' := by
  refine ⟨k, ?_⟩; rw [h]
theorem Kept.faultSet {F : Nat} {w w' : World} (h : Kept Nix w w') (hF : w.heap.size ≤ F) (a b : Value) : Kept Nix w ((w'.setCell ⟨F, 0, none⟩ a).setCell ⟨F, 1, none⟩ b) :=
  h.step (((Kept.refl (· = F) _).setCell (p := ⟨F, 0, none⟩) (.inl rfl) _).setCell (p := ⟨F, 1, none⟩) (.inl rfl) _) (fun y hy => .inr (by subst hy; exact hF))
structure LxI (s : ByteArray) (F B : Nat) (w1 : World) (k : Nat) (l : List LTok) (v : Value) (n : Nat) (wr : World) : Prop where
  num : n = l.length
  len : l.length ≤ k
  win : Win wr B 87 3 v n (ltsC l)
  eq : lexF s = lexA s k l
  keep : Kept (fun b => B ≤ b) w1 wr
set_option maxRecDepth 100000 in
set_option maxHeartbeats 16000000 in
theorem lexLine_any (s : ByteArray) (w : World) (hs : s.size ≤ 1000000000) (hg : MaxC w) : Calls Tryz.prog 21 #[.string s] w (LexQ s w) := by
  obtain ⟨w1, hw1⟩ : ∃ w1, w1 = w.alloc (.cells #[.int .i64 0, .int .i64 0] 30) := ⟨_, rfl⟩
  have k1 : Kept Nix w w1 := by rw [hw1]; exact (Kept.refl Nix w).alloc _
  have F1 : Hid (Fl w.heap.size 0 0 w1) := by rw [hw1]; exact heap_alloc_new w _
  have HZ1 : Hid (w1.heap.size = w.heap.size + 1) := by unfold Hid; rw [hw1]; simp
  have G1 := Lib.hid (hg.kept k1 (fun h => h))
  have HW1 := Lib.hid hw1; have K1 := Lib.hid k1
  clear hw1 k1 hg
  obtain ⟨F, hF⟩ : ∃ F, F = w.heap.size := ⟨_, rfl⟩
  rw [← hF] at F1
  have HF := Lib.hid hF
  clear hF
  by_cases hc : 2000 < s.size
  · have fin : Hid (lexF s = .error (4, 0)) := by unfold Hid lexF; rw [if_pos hc]
    have d1 : decide ((2000 : Int) < (s.size : Int)) = true := decide_eq_true (by omega)
    have d2 : decide (2000 < s.size) = true := decide_eq_true hc
    clear hc
    go_enter Tryz.func21, Tryz.ntmps21
    go_upto_region 1 with fail
    rw [← HW1.out, ← HF.out]
    obtain ⟨f0, f1, f2, f3⟩ := F1.out.cells
    go_wp2_with fail
    exact ret_vf rfl rfl rfl (F1.out.set _ _) (lex_bad fin.out (K1.out.faultSet (Nat.le_of_eq HF.out.symm) _ _))
  have HP0 : Hid (lexF s = lexA s 0 []) := by unfold Hid lexF; rw [if_neg hc]
  have d1 : decide ((2000 : Int) < (s.size : Int)) = false := decide_eq_false (by omega)
  have d2 : decide (2000 < s.size) = false := decide_eq_false hc
  have HC : Hid (s.size ≤ 2000) := Nat.not_lt.1 hc
  obtain ⟨B, hB⟩ : ∃ B, B = w1.heap.size := ⟨_, rfl⟩
  have HFB : Hid (F < B) := by rw [hB]; unfold Hid; have := HZ1.out; have := HF.out; omega
  have HGB : Hid (0 < B) := by rw [hB]; obtain ⟨m, hm⟩ := G1.out; exact cells_lt hm
  have HB := Lib.hid hB
  clear hc hB
  go_enter Tryz.func21, Tryz.ntmps21
  go_upto_region 1 with fail
  rw [← HW1.out, ← HF.out]
  go_upto_region 5 with fail
  clear HW1 d1 d2
  go_loopw [4, 5] (fun v i wr => ∃ (k : Nat) (l : List LTok) (n : Nat) (aa : Option Addr) (cc : Nat), k ≤ s.size ∧ v = .slice aa n cc ∧ i = .int .i64 k ∧ Hid (LxI s F B w1 k l (.slice aa n cc) n wr)) (fun _ i _ => s.size - (intOf i).toNat)
  case atStart => exact ⟨0, [], 0, none, 0, Nat.zero_le _, rfl, rfl, ⟨rfl, Nat.zero_le _, Win.nil .., HP0.out, Kept.refl _ _⟩⟩
  case round =>
    obtain ⟨k, l, n, aa, cc, hk, rfl, rfl, I0⟩ := hrel
    have KR : Hid (Kept Nix w wr) := K1.out.step I0.out.keep (fun y hy => .inr (by have : B ≤ y := hy; have := HFB.out; have := HF.out; omega))
    have FR := Lib.hid (F1.out.kept I0.out.keep (by have := HFB.out; omega))
    have GR := Lib.hid (G1.out.kept I0.out.keep (by have := HGB.out; omega))
    have HBZ : Hid (B ≤ wr.heap.size) := by have := I0.out.keep.size; have := HB.out; unfold Hid; omega
    by_cases hlt : k < s.size
    · have c1 : decide ((k : Int) < (s.size : Int)) = true := decide_eq_true (by omega)
      have c1' : decide (k < s.size) = true := decide_eq_true hlt
      have cb : (k : Int) < (s.size : Int) := by omega
      obtain ⟨w6, hw6⟩ : ∃ w6, w6 = wr.alloc (.cells #[.int .i64 0, .string ⟨#[]⟩, .int .i64 k] 87) := ⟨_, rfl⟩
      obtain ⟨M, hM⟩ : ∃ M, M = wr.heap.size := ⟨_, rfl⟩
      have T6 : Hid (Thr M ⟨0, ⟨#[]⟩, k⟩ w6) := by rw [hw6, hM]; exact heap_alloc_new wr _
      have k6 : Kept Nix wr w6 := by rw [hw6]; exact (Kept.refl Nix wr).alloc _
      have W6 := Lib.hid (I0.out.win.kept k6 (fun _ _ h => h)); have F6 := Lib.hid (FR.out.kept k6 (fun h => h)); have G6 := Lib.hid (GR.out.kept k6 (fun h => h))
      have K6 := Lib.hid k6; have KR6 := Lib.hid (KR.out.trans k6)
      have HBM : Hid (B ≤ M) := by rw [hM]; exact HBZ.out
      have hstep := lexA_step l hlt
      have STEP := Lib.hid (I0.out.eq.trans hstep)
      have HW6 := Lib.hid hw6; have HM := Lib.hid hM
      have HNX : Hid (∀ t k2, lexStep s k hlt = .tok t k2 → k < k2 ∧ k2 ≤ s.size) := fun t k2 h => ⟨(lexStep_next h).1, (lexStep_next h).2.1⟩
      clear hw6 hM k6 hstep
      go_upto_region 8 with fail
      rw [← HW6.out, ← HM.out]
      clear HW6
      obtain ⟨t0, t1, t2, tf⟩ := T6.out.cells
      have tf0 := tf 0; have tf1 := tf 1
      clear tf
      go_upto_block 2 with fail
      go_cut [5] (fun v wx => ∃ (t : LTok) (k2 : Nat), lexStep s k hlt = .tok t k2 ∧ v = .int .i64 k2 ∧ Hid (Thr M t wx) ∧ Hid (Kept (· = M) w6 wx))
      case first =>
        by_cases h32 : s[k].toNat = 32
        · have b1 : ((s[k].toNat : Int) == 32) = true := by simp; omega
          have ST : Hid (lexStep s k hlt = .blank) := by unfold Hid lexStep; rw [if_pos h32]
          have EQ : Hid (lexF s = lexA s (k + 1) l) := by have h := STEP.out; rw [ST.out] at h; exact h
          clear h32
          go_wp2_with fail
          go_roundw
          case rel => exact ⟨k + 1, l, n, aa, cc, by omega, rfl, by go_num, ⟨I0.out.num, by have := I0.out.len; omega, W6.out, EQ.out, I0.out.keep.trans (K6.out.more (fun _ h => h.elim))⟩⟩
          case measure => simp [intOf]; omega
        have b1 : ((s[k].toNat : Int) == 32) = false := by simp; omega
        by_cases hU : upperN s[k] = true
        · have hAZ : 65 ≤ s[k].toNat ∧ s[k].toNat ≤ 90 := by simpa [upperN] using hU
          have HST : Hid (lexStep s k hlt = .tok ⟨1, s.extract k (runEnd isW s k), k⟩ (runEnd isW s k)) := by unfold Hid lexStep; rw [if_neg h32, if_pos hAZ]
          have HKK : Hid (k < runEnd isW s k) := (HNX.out _ _ HST.out).1
          clear hAZ h32
          go_upto_region 13 with (first
            | (go_at_call 36; (refine (letter_any _ _).mono ?_); rintro e w' ⟨rfl, hw_⟩; obtain rfl := hw_.symm)
            | (go_at_call 37; (refine (ldigit_any _ _).mono ?_); rintro e w' ⟨rfl, hw_⟩; obtain rfl := hw_.symm))
          go_loop [5] (fun i => ∃ m : Nat, k ≤ m ∧ m ≤ s.size ∧ i = .int .i64 m ∧ Hid (runEnd isW s m = runEnd isW s k)) (fun i => s.size - (intOf i).toNat)
          case atStart => exact ⟨k, Nat.le_refl _, by omega, rfl, rfl⟩
          case round =>
            obtain ⟨m, hm1, hm2, rfl, hrun⟩ := hrel
            by_cases hml : m < s.size
            · have e1 : decide ((m : Int) < (s.size : Int)) = true := decide_eq_true (by omega)
              have e1' : decide (m < s.size) = true := decide_eq_true hml
              have eb : (m : Int) < (s.size : Int) := by omega
              by_cases hu : upperN s[m] = true
              · have hr2 : Hid (runEnd isW s (m + 1) = runEnd isW s k) := (run_yes hml (by unfold isW; rw [hu]; rfl)).symm.trans hrun.out
                clear hrun
                go_wp2_with (first
                  | (go_at_call 36; (refine (letter_any _ _).mono ?_); rintro e w' ⟨rfl, hw_⟩; obtain rfl := hw_.symm)
                  | (go_at_call 37; (refine (ldigit_any _ _).mono ?_); rintro e w' ⟨rfl, hw_⟩; obtain rfl := hw_.symm))
                go_round
                case rel => exact ⟨m + 1, by omega, by omega, by go_num, hr2⟩
                case measure => simp [intOf]; omega
              · have hu' : upperN s[m] = false := by simpa using hu
                by_cases hd : digitN s[m] = true
                · have hr2 : Hid (runEnd isW s (m + 1) = runEnd isW s k) := (run_yes hml (by unfold isW; rw [hd, hu']; rfl)).symm.trans hrun.out
                  clear hrun hu
                  go_wp2_with (first
                    | (go_at_call 36; (refine (letter_any _ _).mono ?_); rintro e w' ⟨rfl, hw_⟩; obtain rfl := hw_.symm)
                    | (go_at_call 37; (refine (ldigit_any _ _).mono ?_); rintro e w' ⟨rfl, hw_⟩; obtain rfl := hw_.symm))
                  go_round
                  case rel => exact ⟨m + 1, by omega, by omega, by go_num, hr2⟩
                  case measure => simp [intOf]; omega
                · have hd' : digitN s[m] = false := by simpa using hd
                  have em : Hid (runEnd isW s k = m) := hrun.out.symm.trans (run_no hml (by unfold isW; rw [hd', hu']; rfl))
                  have hkm : k < m := by have := HKK.out; rw [em.out] at this; exact this
                  clear hrun hu hd
                  go_wp2_with (first
                    | (go_at_call 36; (refine (letter_any _ _).mono ?_); rintro e w' ⟨rfl, hw_⟩; obtain rfl := hw_.symm)
                    | (go_at_call 37; (refine (ldigit_any _ _).mono ?_); rintro e w' ⟨rfl, hw_⟩; obtain rfl := hw_.symm))
                  go_region
                  all_goals go_wp2_with fail
                  go_meet
                  exact ⟨⟨1, s.extract k m, k⟩, m, by rw [HST.out, em.out], rfl, (T6.out.kept (Kept.refl Nix _).drew (fun h => h)).set 1 _, (((Kept.refl (· = M) w6).drew).setCell (p := ⟨M, 0, none⟩) (.inl rfl) _).setCell (p := ⟨M, 1, none⟩) (.inl rfl) _⟩
            · have e1 : decide ((m : Int) < (s.size : Int)) = false := decide_eq_false (by omega)
              have e1' : decide (m < s.size) = false := decide_eq_false hml
              have em : Hid (runEnd isW s k = m) := hrun.out.symm.trans (run_end (by omega))
              have hkm : k < m := by have := HKK.out; rw [em.out] at this; exact this
              clear hrun
              go_wp2_with (first
                | (go_at_call 36; (refine (letter_any _ _).mono ?_); rintro e w' ⟨rfl, hw_⟩; obtain rfl := hw_.symm)
                | (go_at_call 37; (refine (ldigit_any _ _).mono ?_); rintro e w' ⟨rfl, hw_⟩; obtain rfl := hw_.symm))
              go_region
              all_goals go_wp2_with fail
              go_meet
              exact ⟨⟨1, s.extract k m, k⟩, m, by rw [HST.out, em.out], rfl, (T6.out.kept (Kept.refl Nix _).drew (fun h => h)).set 1 _, (((Kept.refl (· = M) w6).drew).setCell (p := ⟨M, 0, none⟩) (.inl rfl) _).setCell (p := ⟨M, 1, none⟩) (.inl rfl) _⟩
        have hU' : upperN s[k] = false := by simpa using hU
        have hAZ : ¬ (65 ≤ s[k].toNat ∧ s[k].toNat ≤ 90) := by intro h; exact hU (by simpa [upperN] using h)
        by_cases hD : digitN s[k] = true
        · have h09 : 48 ≤ s[k].toNat ∧ s[k].toNat ≤ 57 := by simpa [digitN] using hD
          have HST : Hid (lexStep s k hlt = .tok ⟨2, s.extract k (runEnd digitN s k), k⟩ (runEnd digitN s k)) := by unfold Hid lexStep; rw [if_neg h32, if_neg hAZ, if_pos h09]
          have HKK : Hid (k < runEnd digitN s k) := (HNX.out _ _ HST.out).1
          clear hAZ h32 h09 hU
          go_upto_region 17 with (first
            | (go_at_call 36; (refine (letter_any _ _).mono ?_); rintro e w' ⟨rfl, hw_⟩; obtain rfl := hw_.symm)
            | (go_at_call 37; (refine (ldigit_any _ _).mono ?_); rintro e w' ⟨rfl, hw_⟩; obtain rfl := hw_.symm))
          go_loop [5] (fun i => ∃ m : Nat, k ≤ m ∧ m ≤ s.size ∧ i = .int .i64 m ∧ Hid (runEnd digitN s m = runEnd digitN s k)) (fun i => s.size - (intOf i).toNat)
          case atStart => exact ⟨k, Nat.le_refl _, by omega, rfl, rfl⟩
          case round =>
            obtain ⟨m, hm1, hm2, rfl, hrun⟩ := hrel
            by_cases hml : m < s.size
            · have e1 : decide ((m : Int) < (s.size : Int)) = true := decide_eq_true (by omega)
              have e1' : decide (m < s.size) = true := decide_eq_true hml
              have eb : (m : Int) < (s.size : Int) := by omega
              by_cases hd : digitN s[m] = true
              · have hr2 : Hid (runEnd digitN s (m + 1) = runEnd digitN s k) := (run_yes hml hd).symm.trans hrun.out
                clear hrun
                go_wp2_with (first
                  | (go_at_call 36; (refine (letter_any _ _).mono ?_); rintro e w' ⟨rfl, hw_⟩; obtain rfl := hw_.symm)
                  | (go_at_call 37; (refine (ldigit_any _ _).mono ?_); rintro e w' ⟨rfl, hw_⟩; obtain rfl := hw_.symm))
                go_round
                case rel => exact ⟨m + 1, by omega, by omega, by go_num, hr2⟩
                case measure => simp [intOf]; omega
              · have hd' : digitN s[m] = false := by simpa using hd
                have em : Hid (runEnd digitN s k = m) := hrun.out.symm.trans (run_no hml hd')
                have hkm : k < m := by have := HKK.out; rw [em.out] at this; exact this
                clear hrun hd
                go_wp2_with (first
                  | (go_at_call 36; (refine (letter_any _ _).mono ?_); rintro e w' ⟨rfl, hw_⟩; obtain rfl := hw_.symm)
                  | (go_at_call 37; (refine (ldigit_any _ _).mono ?_); rintro e w' ⟨rfl, hw_⟩; obtain rfl := hw_.symm))
                go_region
                all_goals go_wp2_with fail
                go_meet
                exact ⟨⟨2, s.extract k m, k⟩, m, by rw [HST.out, em.out], rfl, (T6.out.kept (Kept.refl Nix _).drew (fun h => h)).set 2 _, (((Kept.refl (· = M) w6).drew).setCell (p := ⟨M, 0, none⟩) (.inl rfl) _).setCell (p := ⟨M, 1, none⟩) (.inl rfl) _⟩
            · have e1 : decide ((m : Int) < (s.size : Int)) = false := decide_eq_false (by omega)
              have e1' : decide (m < s.size) = false := decide_eq_false hml
              have em : Hid (runEnd digitN s k = m) := hrun.out.symm.trans (run_end (by omega))
              have hkm : k < m := by have := HKK.out; rw [em.out] at this; exact this
              clear hrun
              go_wp2_with (first
                | (go_at_call 36; (refine (letter_any _ _).mono ?_); rintro e w' ⟨rfl, hw_⟩; obtain rfl := hw_.symm)
                | (go_at_call 37; (refine (ldigit_any _ _).mono ?_); rintro e w' ⟨rfl, hw_⟩; obtain rfl := hw_.symm))
              go_region
              all_goals go_wp2_with fail
              go_meet
              exact ⟨⟨2, s.extract k m, k⟩, m, by rw [HST.out, em.out], rfl, (T6.out.kept (Kept.refl Nix _).drew (fun h => h)).set 2 _, (((Kept.refl (· = M) w6).drew).setCell (p := ⟨M, 0, none⟩) (.inl rfl) _).setCell (p := ⟨M, 1, none⟩) (.inl rfl) _⟩
        have hD' : digitN s[k] = false := by simpa using hD
        have h09 : ¬ (48 ≤ s[k].toNat ∧ s[k].toNat ≤ 57) := by intro h; exact hD (by simpa [digitN] using h)
        clear hU hD
        obtain ⟨f0, f1, f2, f3⟩ := F6.out.cells
        by_cases h39 : s[k].toNat = 39
        · have b2 : ((s[k].toNat : Int) == 39) = true := by simp; omega
          have HQ := Lib.hid (quoted_any (s.extract k s.size) w6 (by rw [extract_size']; omega))
          have eq1 : qL (s.extract k s.size) 1 = match txtL (s.data.toList.drop (k + 1)) with | none => 0 | some x => x.2 + 1 := by
            unfold qL
            rw [q_extract]
            unfold qAt
            cases txtL (s.data.toList.drop (k + 1)) with
            | none => rfl
            | some x => show 1 + x.2 = x.2 + 1; omega
          cases ht : txtL (s.data.toList.drop (k + 1)) with
          | none =>
            rw [ht] at eq1
            rw [eq1] at HQ
            have fin : Hid (lexF s = .error (2, s.size)) := by
              have h := STEP.out
              have e : lexStep s k hlt = .bad (2, s.size) := by unfold lexStep; rw [if_neg h32, if_neg hAZ, if_neg h09, if_pos h39, ht]
              rw [e] at h; exact h
            clear h32 hAZ h09 h39 ht eq1
            go_wp2_with (first
              | (go_at_call 36; (refine (letter_any _ _).mono ?_); rintro e w' ⟨rfl, hw_⟩; obtain rfl := hw_.symm)
              | (go_at_call 37; (refine (ldigit_any _ _).mono ?_); rintro e w' ⟨rfl, hw_⟩; obtain rfl := hw_.symm)
              | (go_at_call 38; (refine HQ.out.mono ?_); rintro e w' ⟨rfl, hw_⟩; obtain rfl := hw_.symm))
            exact ret_vf rfl rfl rfl (F6.out.set _ _) (lex_bad fin.out (KR6.out.faultSet (Nat.le_of_eq HF.out.symm) _ _))
          | some x =>
            obtain ⟨b, n'⟩ := x
            rw [ht] at eq1
            have hle := txtL_le _ _ _ ht
            rw [List.length_drop] at hle
            have e0 : s.data.toList.length = s.size := rfl
            rw [e0] at hle
            have HST : Hid (lexStep s k hlt = .tok ⟨3, ⟨b.toArray⟩, k⟩ (k + 1 + n')) := by unfold Hid lexStep; rw [if_neg h32, if_neg hAZ, if_neg h09, if_pos h39, ht]
            obtain ⟨n1, en1⟩ : ∃ n1 : Nat, n1 = n' + 1 := ⟨_, rfl⟩
            obtain ⟨k2, ek2⟩ : ∃ k2 : Nat, k2 = k + 1 + n' := ⟨_, rfl⟩
            obtain ⟨kp, ekp⟩ : ∃ kp : Nat, kp = k + 1 := ⟨_, rfl⟩
            obtain ⟨kn, ekn⟩ : ∃ kn : Nat, kn = k + n' := ⟨_, rfl⟩
            rw [← ek2] at HST
            have HTX : Hid (Lib.replaceAll (s.extract kp kn).data.toList [39, 39] [39] = b) := by
              have h := unq_text ht
              have e : k + 1 + (n' - 1) = kn := by omega
              rw [e, ← ekp] at h; exact h
            have HQ' : Hid (Calls Tryz.prog 38 #[.string (s.extract k s.size)] w6 (IntW n1 w6)) := by have h := HQ.out; rw [eq1] at h; dsimp only at h; rw [← en1] at h; exact h
            have HU := Lib.hid (unq_any (s.extract kp kn) w6 G6.out (by rw [ByteArray.size_extract]; omega))
            have hw1 : (k : Int) + (n1 : Int) = (k2 : Int) := by omega
            have hw2 : (k2 : Int) - 1 = (kn : Int) := by omega
            have hw3 : (k : Int) + 1 = (kp : Int) := by omega
            have hb1 : n1 ≤ 1000000001 := by omega
            have hb2 : k2 ≤ 1000000000 := by omega
            have hb3 : 1 ≤ k2 := by omega
            have zn : ((n1 : Int) == 0) = false := by simp; omega
            have q1 : kp ≤ kn := by omega
            have q2 : kn ≤ s.size := by omega
            clear h32 hAZ h09 h39 ht eq1 HQ hle e0 en1 ek2 ekp ekn
            go_wp2_with (first
              | (go_at_call 36; (refine (letter_any _ _).mono ?_); rintro e w' ⟨rfl, hw_⟩; obtain rfl := hw_.symm)
              | (go_at_call 37; (refine (ldigit_any _ _).mono ?_); rintro e w' ⟨rfl, hw_⟩; obtain rfl := hw_.symm)
              | (go_at_call 38; (refine HQ'.out.mono ?_); rintro e w' ⟨rfl, hw_⟩; obtain rfl := hw_.symm)
              | (go_at_call 39; (refine HU.out.mono ?_); rintro e w8 ⟨rfl, k8_⟩; rw [HTX.out]; have K8 := Lib.hid k8_; have T8 := Lib.hid (T6.out.kept k8_ (fun h => h)); obtain ⟨u0, u1, u2, uf⟩ := T8.out.cells; have uf0 := uf 0; have uf1 := uf 1; clear k8_ uf))
            go_meet
            exact ⟨⟨3, ⟨b.toArray⟩, k⟩, k2, HST.out, rfl, T8.out.set 3 _, ((show Kept (· = M) w6 w8 from K8.out.more (fun _ h => h.elim)).setCell (p := ⟨M, 0, none⟩) (.inl rfl) _).setCell (p := ⟨M, 1, none⟩) (.inl rfl) _⟩
        have b2 : ((s[k].toNat : Int) == 39) = false := by simp; omega
        by_cases h91 : s[k].toNat = 91
        · have b3 : ((s[k].toNat : Int) == 91) = true := by simp; omega
          have HQ := Lib.hid (bracketed_any (s.extract k s.size) w6 (by rw [extract_size']; omega))
          have eq1 : bL (s.extract k s.size) 1 = match bAt s (k + 1) with | none => 0 | some x => x + 1 := by
            unfold bL
            rw [b_extract s k _ 1 (Nat.le_refl _)]
            cases bAt s (k + 1) with
            | none => rfl
            | some x => show 1 + x = x + 1; omega
          cases ht : bAt s (k + 1) with
          | none =>
            rw [ht] at eq1
            rw [eq1] at HQ
            have fin : Hid (lexF s = .error (2, s.size)) := by
              have h := STEP.out
              have e : lexStep s k hlt = .bad (2, s.size) := by unfold lexStep; rw [if_neg h32, if_neg hAZ, if_neg h09, if_neg h39, if_pos h91, ht]
              rw [e] at h; exact h
            clear h32 hAZ h09 h39 h91 ht eq1
            go_wp2_with (first
              | (go_at_call 36; (refine (letter_any _ _).mono ?_); rintro e w' ⟨rfl, hw_⟩; obtain rfl := hw_.symm)
              | (go_at_call 37; (refine (ldigit_any _ _).mono ?_); rintro e w' ⟨rfl, hw_⟩; obtain rfl := hw_.symm)
              | (go_at_call 40; (refine HQ.out.mono ?_); rintro e w' ⟨rfl, hw_⟩; obtain rfl := hw_.symm))
            exact ret_vf rfl rfl rfl (F6.out.set _ _) (lex_bad fin.out (KR6.out.faultSet (Nat.le_of_eq HF.out.symm) _ _))
          | some n' =>
            rw [ht] at eq1
            have hle := b_le _ _ _ (Nat.le_refl _) ht
            have HST : Hid (lexStep s k hlt = .tok ⟨4, s.extract (k + 1) (k + n'), k⟩ (k + 1 + n')) := by unfold Hid lexStep; rw [if_neg h32, if_neg hAZ, if_neg h09, if_neg h39, if_pos h91, ht]
            obtain ⟨n1, en1⟩ : ∃ n1 : Nat, n1 = n' + 1 := ⟨_, rfl⟩
            obtain ⟨k2, ek2⟩ : ∃ k2 : Nat, k2 = k + 1 + n' := ⟨_, rfl⟩
            obtain ⟨kp, ekp⟩ : ∃ kp : Nat, kp = k + 1 := ⟨_, rfl⟩
            obtain ⟨kn, ekn⟩ : ∃ kn : Nat, kn = k + n' := ⟨_, rfl⟩
            rw [← ek2, ← ekp, ← ekn] at HST
            have HQ' : Hid (Calls Tryz.prog 40 #[.string (s.extract k s.size)] w6 (IntW n1 w6)) := by have h := HQ.out; rw [eq1] at h; dsimp only at h; rw [← en1] at h; exact h
            have hw1 : (k : Int) + (n1 : Int) = (k2 : Int) := by omega
            have hw2 : (k2 : Int) - 1 = (kn : Int) := by omega
            have hw3 : (k : Int) + 1 = (kp : Int) := by omega
            have hb1 : n1 ≤ 1000000001 := by omega
            have hb2 : k2 ≤ 1000000000 := by omega
            have hb3 : 1 ≤ k2 := by omega
            have zn : ((n1 : Int) == 0) = false := by simp; omega
            have q1 : kp ≤ kn := by omega
            have q2 : kn ≤ s.size := by omega
            clear h32 hAZ h09 h39 h91 ht eq1 HQ hle en1 ek2 ekp ekn
            go_wp2_with (first
              | (go_at_call 36; (refine (letter_any _ _).mono ?_); rintro e w' ⟨rfl, hw_⟩; obtain rfl := hw_.symm)
              | (go_at_call 37; (refine (ldigit_any _ _).mono ?_); rintro e w' ⟨rfl, hw_⟩; obtain rfl := hw_.symm)
              | (go_at_call 40; (refine HQ'.out.mono ?_); rintro e w' ⟨rfl, hw_⟩; obtain rfl := hw_.symm))
            go_region
            all_goals go_wp2_with fail
            go_meet
            exact ⟨⟨4, s.extract kp kn, k⟩, k2, by rw [HST.out], rfl, (T6.out.kept (Kept.refl Nix _).drew (fun h => h)).set 4 _, (((Kept.refl (· = M) w6).drew).setCell (p := ⟨M, 0, none⟩) (.inl rfl) _).setCell (p := ⟨M, 1, none⟩) (.inl rfl) _⟩
        have b3 : ((s[k].toNat : Int) == 91) = false := by simp; omega
        have HPX := Lib.hid (Tryz.strings_HasPrefix (s.extract k s.size) ⟨#[58, 61]⟩ w6)
        have hpx := prefix_colon hlt
        by_cases h58 : s[k].toNat = 58 ∧ peek s (k + 1) = 61
        · have HST : Hid (lexStep s k hlt = .tok ⟨5, ⟨#[58, 61]⟩, k⟩ (k + 2)) := by unfold Hid lexStep; rw [if_neg h32, if_neg hAZ, if_neg h09, if_neg h39, if_neg h91, if_pos h58, colon_text hlt h58]
          have HP : Hid (Lib.hasPrefix (s.extract k s.size).data.toList (⟨#[58, 61]⟩ : ByteArray).data.toList = true) := by unfold Hid; rw [hpx]; simpa using h58
          clear h32 hAZ h09 h39 h91 h58 hpx
          go_wp2_with (first
            | (go_at_call 36; (refine (letter_any _ _).mono ?_); rintro e w' ⟨rfl, hw_⟩; obtain rfl := hw_.symm)
            | (go_at_call 37; (refine (ldigit_any _ _).mono ?_); rintro e w' ⟨rfl, hw_⟩; obtain rfl := hw_.symm)
            | (go_at_call 41; (refine HPX.out.mono ?_); rintro e w' ⟨rfl, hw_⟩; obtain rfl := hw_.symm; rw [HP.out]))
          go_meet
          exact ⟨⟨5, ⟨#[58, 61]⟩, k⟩, k + 2, HST.out, by go_num, T6.out.set 5 _, ((Kept.refl (· = M) w6).setCell (p := ⟨M, 0, none⟩) (.inl rfl) _).setCell (p := ⟨M, 1, none⟩) (.inl rfl) _⟩
        have HP : Hid (Lib.hasPrefix (s.extract k s.size).data.toList (⟨#[58, 61]⟩ : ByteArray).data.toList = false) := by unfold Hid; rw [hpx]; simpa using h58
        have HIX := Lib.hid (Tryz.strings_IndexByte ⟨#[61, 63, 38, 43, 45, 42, 47, 37, 40, 41, 60, 62, 44, 58, 36]⟩ (s[k].toNat : Int) w6)
        have hix := sign_index s[k]
        obtain ⟨r, hr⟩ : ∃ r : Int, r = Lib.indexByte (⟨#[61, 63, 38, 43, 45, 42, 47, 37, 40, 41, 60, 62, 44, 58, 36]⟩ : ByteArray).data.toList ((s[k].toNat : Int)).toNat.toUInt8 := ⟨_, rfl⟩
        rw [← hr] at hix HIX
        clear hpx hr
        by_cases hsg : s[k].toNat ∈ signL
        · have HST : Hid (lexStep s k hlt = .tok ⟨5, s.extract k (k + 1), k⟩ (k + 1)) := by unfold Hid lexStep; rw [if_neg h32, if_neg hAZ, if_neg h09, if_neg h39, if_neg h91, if_neg h58, if_pos hsg]
          have z : decide ((0 : Int) ≤ r) = true := by rw [hix]; simpa using hsg
          have q1 : k ≤ k + 1 := by omega
          have q2 : k + 1 ≤ s.size := by omega
          clear h32 hAZ h09 h39 h91 h58 hix hsg
          go_wp2_with (first
            | (go_at_call 36; (refine (letter_any _ _).mono ?_); rintro e w' ⟨rfl, hw_⟩; obtain rfl := hw_.symm)
            | (go_at_call 37; (refine (ldigit_any _ _).mono ?_); rintro e w' ⟨rfl, hw_⟩; obtain rfl := hw_.symm)
            | (go_at_call 41; (refine HPX.out.mono ?_); rintro e w' ⟨rfl, hw_⟩; obtain rfl := hw_.symm; rw [HP.out])
            | (go_at_call 42; (refine HIX.out.mono ?_); rintro e w' ⟨rfl, hw_⟩; obtain rfl := hw_.symm))
          go_region
          all_goals go_wp2_with fail
          go_meet
          exact ⟨⟨5, s.extract k (k + 1), k⟩, k + 1, by rw [HST.out], by go_num, (T6.out.kept (Kept.refl Nix _).drew (fun h => h)).set 5 _, (((Kept.refl (· = M) w6).drew).setCell (p := ⟨M, 0, none⟩) (.inl rfl) _).setCell (p := ⟨M, 1, none⟩) (.inl rfl) _⟩
        · have fin : Hid (lexF s = .error (2, k)) := by
            have h := STEP.out
            have e : lexStep s k hlt = .bad (2, k) := by unfold lexStep; rw [if_neg h32, if_neg hAZ, if_neg h09, if_neg h39, if_neg h91, if_neg h58, if_neg hsg]
            rw [e] at h; exact h
          have z : decide ((0 : Int) ≤ r) = false := by rw [hix]; simpa using hsg
          clear h32 hAZ h09 h39 h91 h58 hix hsg
          go_wp2_with (first
            | (go_at_call 36; (refine (letter_any _ _).mono ?_); rintro e w' ⟨rfl, hw_⟩; obtain rfl := hw_.symm)
            | (go_at_call 37; (refine (ldigit_any _ _).mono ?_); rintro e w' ⟨rfl, hw_⟩; obtain rfl := hw_.symm)
            | (go_at_call 41; (refine HPX.out.mono ?_); rintro e w' ⟨rfl, hw_⟩; obtain rfl := hw_.symm; rw [HP.out])
            | (go_at_call 42; (refine HIX.out.mono ?_); rintro e w' ⟨rfl, hw_⟩; obtain rfl := hw_.symm))
          exact ret_vf rfl rfl rfl (F6.out.set _ _) (lex_bad fin.out (KR6.out.faultSet (Nat.le_of_eq HF.out.symm) _ _))
      case rest =>
      obtain ⟨t, k2, hst, rfl, T7, K7⟩ := hcut
      obtain ⟨w7, hw7⟩ : ∃ x, x = wc := ⟨_, rfl⟩
      rw [← hw7] at T7 K7 ⊢
      clear hw7 t0 t1 t2 tf0 tf1
      have KT : Hid (Kept (fun b => B ≤ b) wr w7) := (K6.out.more (fun _ h => h.elim)).trans (K7.out.more (fun y hy => by subst hy; exact HBM.out))
      have W7 : Hid (Win w7 B 87 3 (.slice aa n cc) n (ltsC l)) := W6.out.kept K7.out (fun b hb h => by have := (I0.out.win.lt b hb).2; have := HM.out; omega)
      have EQ : Hid (lexF s = lexA s k2 (l ++ [t])) := by have h := STEP.out; rw [hst] at h; exact h
      obtain ⟨hk1, hk2⟩ := HNX.out t k2 hst
      obtain ⟨t0, t1, t2, _⟩ := T7.out.cells
      have HB7 : Hid (B ≤ w7.heap.size) := by have := KT.out.size; have := HBZ.out; unfold Hid; omega
      clear hst
      go_wp2_with (refine wpList_app_tok rfl _ _ rfl _ n l t I0.out.num rfl B (W7.out.alloc _) _ rfl (heap_alloc_new w7 _) (by have := I0.out.len; have := HC.out; omega) (by have := HB7.out; simp; omega) ?_; intro a9 c9 n9 w9 hn9 hW9 hk9; have W9 := Lib.hid hW9; have K9 : Hid (Kept (fun b => B ≤ b) wr w9) := (KT.out.alloc _).trans hk9; clear hW9 hk9)
      go_roundw
      case rel => exact ⟨k2, l ++ [t], n9, _, _, hk2, rfl, rfl, ⟨hn9.out, by have := I0.out.len; simp; omega, W9.out, EQ.out, I0.out.keep.trans K9.out⟩⟩
      case measure => simp [intOf]; omega
    · have c1 : decide ((k : Int) < (s.size : Int)) = false := decide_eq_false (by omega)
      have c1' : decide (k < s.size) = false := decide_eq_false hlt
      have fin : Hid (lexF s = .ok l) := by unfold Hid; rw [I0.out.eq, lexA_end (by omega)]
      obtain ⟨f0, f1, f2, f3⟩ := FR.out.cells
      go_wp2_with fail
      refine ret_vf rfl rfl rfl (FR.out.set _ _) ⟨KR.out.faultSet (Nat.le_of_eq HF.out.symm) _ _, ?_⟩
      rw [fin.out]
      have hn := I0.out.num
      have hW := I0.out.win
      subst hn
      exact ⟨_, _, rfl, (hW.mono (by have := HFB.out; have := HF.out; omega)).kept (((Kept.refl (· = F) _).setCell (p := ⟨F, 0, none⟩) (.inl rfl) _).setCell (p := ⟨F, 1, none⟩) (.inl rfl) _) (fun b hb h => by have := (hW.lt b hb).1; have := HFB.out; omega)⟩
end Go.Proofs.YtlnhcgihpclpaaaGreatDoor

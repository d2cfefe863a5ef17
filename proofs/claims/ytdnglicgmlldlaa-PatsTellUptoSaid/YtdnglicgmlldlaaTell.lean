/- The walk of PatsTell. -/
import Derived.Test.YtdnglicgmlldlaaSame4
import Derived.Test.YtdnglicgmlldlaaSortLaw
namespace Go.Proofs.Ytdnglicgmlldlaa
open Go.RowKit

theorem wrong_same (p : PatT) : wrongF p = refWrongR p := wrongF_eq p
theorem Wrong_r (p : PatT) (v : Value) (w : World) (hp : PatV w (· < w.heap.size) v p) (hsz : sizeT p ≤ 100000000) : Calls Try.prog 8 #[v] w (IntQ (refWrongR p) w) := by
  refine (Wrong_any p v w hp hsz).mono ?_
  rintro e w' ⟨rfl, h⟩; exact ⟨by rw [wrong_same], h⟩
theorem refWrong_r (p : PatT) (v : Value) (w : World) (hp : PatV w (· < w.heap.size) v p) (hsz : sizeT p ≤ 100000000) : Calls Try.prog 9 #[v] w (IntQ (refWrongR p) w) :=
  refWrong_any p v _ w hsz hp (Safe.lt (Nat.le_refl _))
theorem PatV.kept {w w' : World} {v : Value} {p : PatT} (h : PatV w (· < w.heap.size) v p) (hk : Kept Nix w w') : PatV w' (· < w'.heap.size) v p := by
  obtain ⟨ka, cap, rfl, hz, hp⟩ := h
  exact ⟨ka, cap, rfl, hz, hp.to hk (Safe.lt (Nat.le_refl _)) fun b hb => Nat.lt_of_lt_of_le hb hk.size⟩

theorem Kept.drewN' (w : World) (n : Nat) : Kept Nix w (w.drewN n) := ⟨rfl, rfl, rfl, Nat.le_refl _, fun _ _ _ => rfl⟩
theorem StrsV.shape {w : World} {S : Nat → Prop} {v : Value} {l : List ByteArray} (h : StrsV w S v l) : ∃ a cap, v = .slice a l.length cap := by
  obtain ⟨a, cap, e, _⟩ := h; exact ⟨a, cap, e⟩
theorem same_none (w : World) : Calls Try.prog 16 #[.slice none 0 0, .slice none 0 0] w (BoolQ true w) := by
  have z : StrsV w (fun _ => True) (.slice none 0 0) [] := ⟨none, 0, rfl, fun h => absurd h (by decide)⟩
  refine (sameTexts_any [] [] _ _ _ _ w z z (by decide) (by decide)).mono ?_
  rintro e w' ⟨rfl, n, rfl⟩
  exact ⟨by simp, Kept.drewN' _ _⟩
theorem same_strs (l1 l2 : List ByteArray) (S1 S2 : Nat → Prop) (v1 v2 : Value) (w : World) (h1 : StrsV w S1 v1 l1) (h2 : StrsV w S2 v2 l2) (he : l1 = l2) (hl : l1.length < 1000000000) :
    Calls Try.prog 16 #[v1, v2] w (BoolQ true w) := by
  subst he
  refine (sameTexts_any l1 l1 S1 S2 v1 v2 w h1 h2 hl hl).mono ?_
  rintro e w' ⟨rfl, n, rfl⟩
  exact ⟨by simp, Kept.drewN' _ _⟩

/-- The law's own box of its argument, and the argument. -/
structure LawP (N : Nat) (p : PatT) (ka : Option Addr) (cap : Nat) (w0 w : World) : Prop where
  kept : Kept Nix w0 w
  pat : PatV w (· < w.heap.size) (.agg #[.int .i64 p.kind, .string p.text, .int .i64 p.n, .string p.name, .slice ka p.kids.length cap]) p
  box : Box5 N (.int .i64 p.kind) (.string p.text) (.int .i64 p.n) (.string p.name) (.slice ka p.kids.length cap) w
theorem LawP.next {N : Nat} {p : PatT} {ka : Option Addr} {cap : Nat} {w0 w w' : World} (h : LawP N p ka cap w0 w) (hk : Kept Nix w w') : LawP N p ka cap w0 w' :=
  ⟨h.kept.trans hk, h.pat.kept hk, h.box.kept hk (fun h => h)⟩

set_option maxRecDepth 100000 in
set_option maxHeartbeats 2000000 in
theorem tell_walk (p : PatT) (v : Value) (s : ByteArray) (w : World) (hp : PatV w (· < w.heap.size) v p) (hsz : sizeT p ≤ 100000000) (hs : s.size ≤ maxLen) :
    Calls Try.prog 4 #[v, .string s] w (BoolQ true w) := by
  have hp0 := hp
  obtain ⟨ka, cap, rfl, hz, hk⟩ := hp
  have L0 : LawP w.heap.size p ka cap w (w.alloc (.cells #[.int .i64 p.kind, .string p.text, .int .i64 p.n, .string p.name, .slice ka p.kids.length cap] 24)) :=
    ⟨(Kept.refl _ _).alloc _, hp0.kept ((Kept.refl _ _).alloc _), Box5.new _ _ _ _ _ _ _⟩
  have HL := Lib.hid L0; have HS := Lib.hid hs
  clear L0 hp0 hz hk hs
  go_enter Try.func4, Try.ntmps4
  go_upto_region 1 with fail
  obtain ⟨w0, hw0⟩ : ∃ w0, w0 = (w.alloc (.cells #[.int .i64 p.kind, .string p.text, .int .i64 p.n, .string p.name, .slice ka p.kids.length cap] 24)) := ⟨_, rfl⟩
  rw [← hw0] at HL ⊢; clear hw0
  have c0 := HL.out.box.h0; have c1 := HL.out.box.h1; have c2 := HL.out.box.h2; have c3 := HL.out.box.h3; have c4 := HL.out.box.h4
  go_cut [27] (fun c wx => c = .bool false ∧ Hid (LawP w.heap.size p ka cap w wx))
  case first =>
    have M0 := Lib.hid (HL.out.next (Kept.refl Nix w0).drew)
    go_region_with (first
      | (go_at_call 8; (with_reducible refine (Wrong_r p _ _ M0.out.pat hsz).mono ?_); rintro e w1 ⟨rfl, k⟩; have M1 := Lib.hid (M0.out.next k); have d0 := M1.out.box.h0; have d1 := M1.out.box.h1; have d2 := M1.out.box.h2; have d3 := M1.out.box.h3; have d4 := M1.out.box.h4; clear k)
      | (go_at_call 9; (with_reducible refine (refWrong_r p _ _ M1.out.pat hsz).mono ?_); rintro e w2 ⟨rfl, k⟩; have M2 := Lib.hid (M1.out.next k); have d0 := M2.out.box.h0; have d1 := M2.out.box.h1; have d2 := M2.out.box.h2; have d3 := M2.out.box.h3; have d4 := M2.out.box.h4; clear k)
      | (go_at_call 10; (with_reducible refine (named_any s _ HS.out).mono ?_); rintro e w' ⟨rfl, rfl⟩)
      | (go_at_call 11; (with_reducible refine (refNamed_any s _ HS.out).mono ?_); rintro e w3 ⟨rfl, k⟩; have M3 := Lib.hid (M2.out.next k); clear k))
    all_goals (go_wp2_with fail; go_meet; exact ⟨rfl, M3⟩)
  case rest =>
    obtain ⟨rfl, M⟩ := hcut
    clear HL c0 c1 c2 c3 c4
    have c0 := M.out.box.h0; have c1 := M.out.box.h1; have c2 := M.out.box.h2; have c3 := M.out.box.h3; have c4 := M.out.box.h4
    go_wp2_with fail
    refine (size_any p _ _ M.out.pat hsz).mono ?_
    rintro e w4 ⟨rfl, k⟩
    have M4 := Lib.hid (M.out.next k); clear k; have d0 := M4.out.box.h0; have d1 := M4.out.box.h1; have d2 := M4.out.box.h2; have d3 := M4.out.box.h3; have d4 := M4.out.box.h4
    clear c0 c1 c2 c3 c4
    have hq := qF_fits p
    rw [sizeF_eq]
    by_cases hf : fits p
    all_goals
      first | rw [if_pos hf] at hq ⊢ | rw [if_neg hf] at hq ⊢
      go_wp2_with fail
      refine (refSize_any p _ _ _ hsz M4.out.pat (Safe.lt (Nat.le_refl _))).mono ?_
      rintro e w5 ⟨rfl, k⟩
      rw [hq]
      dsimp only [refSizeR]
      clear hq hf d0 d1 d2 d3 d4
      have M5 := Lib.hid (M4.out.next k); clear k; have d0 := M5.out.box.h0; have d1 := M5.out.box.h1; have d2 := M5.out.box.h2; have d3 := M5.out.box.h3; have d4 := M5.out.box.h4
      go_wp2_with fail
      refine (Names_any p _ _ M5.out.pat hsz).mono ?_
      rintro e w6 ⟨k, ho⟩
      clear d0 d1 d2 d3 d4
      have M6 := Lib.hid (M5.out.next k); clear k; have d0 := M6.out.box.h0; have d1 := M6.out.box.h1; have d2 := M6.out.box.h2; have d3 := M6.out.box.h3; have d4 := M6.out.box.h4
      rw [wrong_same] at ho
      by_cases he : refWrongR p = 0
      · rw [if_pos he] at ho
        obtain ⟨_, rfl, ⟨v1, v2, rfl, s1, s2⟩⟩ := ho
        have E := Lib.hid he
        clear he
        obtain ⟨a1, e1, rfl⟩ := s1.shape
        obtain ⟨a2, e2, rfl⟩ := s2.shape
        have S1 := Lib.hid s1; have S2 := Lib.hid s2; clear s1 s2
        go_wp2_with fail
        refine (refNames_any p _ _ _ hsz M6.out.pat (Safe.lt (Nat.le_refl _))).mono ?_
        rintro e w7 ⟨k, ho⟩
        rw [if_pos E.out] at ho
        obtain ⟨_, rfl, ⟨u1, u2, rfl, t1, t2⟩⟩ := ho
        obtain ⟨a3, d3', rfl⟩ := t1.shape
        obtain ⟨a4, d4', rfl⟩ := t2.shape
        have S1' := Lib.hid (S1.out.kept k (fun b h => h.2)); have S2' := Lib.hid (S2.out.kept k (fun b h => h.2)); have T1 := Lib.hid t1.strs; have T2 := Lib.hid t2.strs
        have bd : (givenF p).length ≤ 4096 ∧ (calledF p).length ≤ 4096 := by
          have hfit : fits p := by
            have := E.out; unfold refWrongR at this
            by_cases h : fits p
            · exact h
            · rw [if_neg h] at this; omega
          have h := nf_length (allT p); have h2 := allT_length p; have h3 := hfit.1
          rw [(given_eq p).1, (given_eq p).2]; omega
        have BD := Lib.hid bd
        have h67 := k.size
        clear d0 d1 d2 d3 d4 t1 t2 bd
        have M7 := Lib.hid (M6.out.next k); clear k
        go_wp2_with fail
        refine (same_strs _ _ _ _ _ _ _ S1'.out T1.out (given_eq p).1 (by have := BD.out; omega)).mono ?_
        rintro e w8 ⟨rfl, k⟩
        have S2n := Lib.hid (S2'.out.kept k (fun b h => Nat.lt_of_lt_of_le h.2 h67)); have T2n := Lib.hid (T2.out.kept k (fun b h => h.2))
        have M8 := Lib.hid (M7.out.next k); clear k
        go_wp2_with fail
        refine (same_strs _ _ _ _ _ _ _ S2n.out T2n.out (given_eq p).2 (by have := BD.out; omega)).mono ?_
        rintro e w9 ⟨rfl, k⟩
        have M9 := Lib.hid (M8.out.next k); clear k
        go_wp2_with fail
        go_ret
        exact ⟨by simp, M9.out.kept⟩
      · rw [if_neg he] at ho
        subst ho
        have E := Lib.hid he
        clear he
        go_wp2_with fail
        refine (refNames_any p _ _ _ hsz M6.out.pat (Safe.lt (Nat.le_refl _))).mono ?_
        rintro e w7 ⟨k, ho⟩
        rw [if_neg E.out] at ho
        subst ho
        clear d0 d1 d2 d3 d4
        have M7 := Lib.hid (M6.out.next k); clear k; have d0 := M7.out.box.h0; have d1 := M7.out.box.h1; have d2 := M7.out.box.h2; have d3 := M7.out.box.h3; have d4 := M7.out.box.h4
        go_wp2_with fail
        refine (same_none _).mono ?_
        rintro e w8 ⟨rfl, k⟩
        have M8 := Lib.hid (M7.out.next k); clear k
        go_wp2_with fail
        refine (same_none _).mono ?_
        rintro e w9 ⟨rfl, k⟩
        have M9 := Lib.hid (M8.out.next k); clear k
        go_wp2_with fail
        go_ret
        exact ⟨by simp, M9.out.kept⟩
end Go.Proofs.Ytdnglicgmlldlaa

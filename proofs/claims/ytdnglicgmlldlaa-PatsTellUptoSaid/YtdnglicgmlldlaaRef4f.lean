/- The reference of chapter 4: Names and SameTexts. -/
import Derived.Test.YtdnglicgmlldlaaRef4e
import Derived.Test.YtdnglicgmlldlaaPut
namespace Go.Proofs.Ytdnglicgmlldlaa
open Go.RowKit

def isGift (k : Int) : Prop := k = 21 ∨ k = 22 ∨ k = 23
instance (k : Int) : Decidable (isGift k) := by unfold isGift; exact inferInstance
theorem gifts_list (k : Int) : ([21, 22, 23] : List Int).contains k = decide (isGift k) := by
  rw [Bool.eq_iff_iff, decide_eq_true_eq]; unfold isGift; simp
theorem In_gifts (k : Int) (b : Nat) (w : World) (hb : b = w.heap.size) :
    Calls Try.prog 34 #[.int .i64 k, .slice (some ⟨b, 0, none⟩) 3 3] (w.alloc (.cells #[.int .i64 21, .int .i64 22, .int .i64 23] 3)) (BoolQ (decide (isGift k)) w) := by
  subst hb
  refine (In_any k [21, 22, 23] _ (gifts_list k) w.heap.size 3 3 (0, 0) _ (heap_alloc_new w _) (by decide)).mono ?_
  rintro e w' ⟨rfl, rfl⟩
  exact ⟨rfl, (Kept.refl _ _).alloc _⟩

def nfStep (st : List ByteArray × List ByteArray) (p : PatT) : List ByteArray × List ByteArray :=
  (if isGift p.kind then putL st.1 p.name else st.1, if p.kind = 24 then putL st.2 p.name else st.2)
def namesFold (l : List PatT) : List ByteArray × List ByteArray := l.foldl nfStep ([], [])
theorem putL_length (l : List ByteArray) (s : ByteArray) : (putL l s).length ≤ l.length + 1 := by
  have := ahead_le l s
  unfold putL; split
  · omega
  · simp; omega
theorem nf_length (l : List PatT) : (namesFold l).1.length ≤ l.length ∧ (namesFold l).2.length ≤ l.length := by
  unfold namesFold
  have : ∀ (l : List PatT) (st : List ByteArray × List ByteArray), (l.foldl nfStep st).1.length ≤ st.1.length + l.length ∧ (l.foldl nfStep st).2.length ≤ st.2.length + l.length := by
    intro l; induction l with
    | nil => intro st; simp
    | cons p ps ih =>
      intro st
      have h := ih (nfStep st p)
      have h1 : (nfStep st p).1.length ≤ st.1.length + 1 := by unfold nfStep; dsimp only; split; exact putL_length _ _; omega
      have h2 : (nfStep st p).2.length ≤ st.2.length + 1 := by unfold nfStep; dsimp only; split; exact putL_length _ _; omega
      rw [List.foldl_cons, List.length_cons]; omega
  have := this l ([], []); simpa using this
theorem nf_take (l : List PatT) (j : Nat) (hj : j < l.length) : namesFold (l.take (j + 1)) = nfStep (namesFold (l.take j)) l[j] := by
  unfold namesFold; rw [List.take_succ_eq_append_getElem hj, List.foldl_append]; rfl

structure RefNamesOut (g c : List ByteArray) (w : World) (v : Value) (w' : World) : Prop where
  out : ∃ v1 v2, v = .tuple #[v1, v2, .int .i64 0] ∧ PutV w' (fun b => w.heap.size ≤ b ∧ b < w'.heap.size) v1 g ∧ PutV w' (fun b => w.heap.size ≤ b ∧ b < w'.heap.size) v2 c
def RefNamesPost (p : PatT) (w : World) (e : Ending) (w' : World) : Prop :=
  Kept Nix w w' ∧ if refWrongR p = 0 then ∃ v, e = .returned v ∧ RefNamesOut (namesFold (allT p)).1 (namesFold (allT p)).2 w v w' else e = .returned (.tuple #[.slice none 0 0, .slice none 0 0, .int .i64 (refWrongR p)])
theorem PutV.mono {w w' : World} {B : Nat} {v : Value} {l : List ByteArray} (h : PutV w (fun b => B ≤ b ∧ b < w.heap.size) v l) (hk : Kept Nix w w') : PutV w' (fun b => B ≤ b ∧ b < w'.heap.size) v l := by
  rcases h with h | ⟨h0, b, o, cap, e, h1, h2, hb, hc⟩
  · exact .inl h
  · exact .inr ⟨h0, b, o, cap, e, h1, h2, ⟨hb.1, Nat.lt_of_lt_of_le hb.2 hk.size⟩, fun i hi => (hk.cell hb.2 (fun h => h)).trans (hc i hi)⟩
theorem PutV.shape {w : World} {S : Nat → Prop} {v : Value} {l : List ByteArray} (h : PutV w S v l) : ∃ a cap, v = .slice a l.length cap := by
  rcases h with ⟨rfl, rfl⟩ | ⟨_, b, o, cap, rfl, _⟩
  · exact ⟨_, _, rfl⟩
  · exact ⟨_, _, rfl⟩

set_option maxRecDepth 100000 in
set_option maxHeartbeats 2000000 in
theorem refNames_any (p : PatT) (v : Value) (S : Nat → Prop) (w : World) (hm : sizeT p ≤ 100000000) (hp : PatV w S v p) (hS : Safe S Nix w.heap.size) :
    Calls Try.prog 15 #[v] w (RefNamesPost p w) := by
  obtain ⟨ka, cap, rfl, hz, hk⟩ := hp
  have B0 := Box5.new w (.int .i64 p.kind) (.string p.text) (.int .i64 p.n) (.string p.name) (.slice ka p.kids.length cap) 24
  have hk0 := fun x => hk.kept ((Kept.refl Nix w).alloc x) hS
  have HB := Lib.hid B0; have HZ := Lib.hid hz; have HK := Lib.hid hk0
  clear B0 hz hk hk0
  go_enter Try.func15, Try.ntmps15
  go_wp2_with fail
  refine (refWrong_any p _ S _ hm ⟨ka, cap, rfl, HZ.out, HK.out _⟩ (hS.mono (by simp))).mono ?_
  rintro e w1 ⟨rfl, k1⟩
  have B1 := HB.out.kept k1 (fun h => h)
  have K1 : Hid (Kept Nix w w1) := ((Kept.refl Nix w).alloc _).quiet k1
  have HP : Hid (PatV w1 S (.agg #[.int .i64 p.kind, .string p.text, .int .i64 p.n, .string p.name, .slice ka p.kids.length cap]) p) := ⟨ka, cap, rfl, HZ.out, (HK.out _).kept k1 (hS.mono (by simp))⟩
  have hs1 : Hid (Safe S Nix w1.heap.size) := hS.mono K1.out.size
  clear k1 HB HK HZ
  obtain ⟨_, c0, c1, c2, c3, c4⟩ := B1
  by_cases he : refWrongR p = 0
  · have hfit : fits p := by
      by_cases h : fits p
      · exact h
      · unfold refWrongR at he; rw [if_neg h] at he; omega
    have hlen := allT_length p
    have hpos := sizeT_pos p
    have h4096 := hfit.1
    have HLEN := Lib.hid hlen; have HE := Lib.hid he
    have P : Hid (∀ e w', (∃ v, e = .returned v ∧ RefNamesOut (namesFold (allT p)).1 (namesFold (allT p)).2 w v w') → Kept Nix w w' → RefNamesPost p w e w') := fun e w' h1 h2 => ⟨h2, by rw [if_pos HE.out]; exact h1⟩
    rw [he]
    clear hlen hfit he
    go_wp2_with fail
    refine (All_any (sizeT p) p _ S _ (Nat.le_refl _) hm HP.out hs1.out).mono ?_
    rintro e w2 ⟨v2, rfl, ⟨cs, hW, hR⟩, k2⟩
    obtain ⟨g, o, cp, rfl, _, hg, hat⟩ := hW.row5 hR (by rw [HLEN.out]; omega)
    have K2 : Hid (Kept Nix w w2) := K1.out.trans k2
    have hle := k2.size
    have AT := Lib.hid hat; have GG := Lib.hid hg
    have hw2 := K2.out.size
    clear hW hR k2 hat hg c0 c1 c2 c3 c4 K1
    rw [HLEN.out]
    go_wp2_with fail
    go_loopw [6, 7, 18] (fun v1 v2 i wr => ∃ (j : Nat) (g c : List ByteArray) (a1 : Option Addr) (d1 : Nat) (a2 : Option Addr) (d2 : Nat), j ≤ sizeT p ∧ i = .int .i64 j ∧ v1 = .slice a1 g.length d1 ∧ v2 = .slice a2 c.length d2 ∧ Kept Nix w2 wr ∧ Hid ((g, c) = namesFold ((allT p).take j)) ∧ g.length ≤ j ∧ c.length ≤ j ∧
      PutV wr (fun b => w.heap.size ≤ b ∧ b < wr.heap.size) v1 g ∧ PutV wr (fun b => w.heap.size ≤ b ∧ b < wr.heap.size) v2 c) (fun _ _ i _ => sizeT p - (intOf i).toNat)
    case atStart => exact ⟨0, [], [], none, 0, none, 0, Nat.zero_le _, rfl, rfl, rfl, Kept.refl _ _, rfl, Nat.le_refl _, Nat.le_refl _, .inl ⟨rfl, rfl⟩, .inl ⟨rfl, rfl⟩⟩
    case round =>
      obtain ⟨j, gl, cl, a1, d1, a2, d2, hj, rfl, rfl, rfl, hK, hnf, hgl, hcl, hp1, hp2⟩ := hrel
      have HP1 := Lib.hid hp1; have HP2 := Lib.hid hp2; clear hp1 hp2
      by_cases hlt : j < sizeT p
      · have hj' : j < (allT p).length := by rw [HLEN.out]; exact hlt
        have hn := (AT.out j hj').kept hK (fun b hb => ⟨by rcases hb with h | rfl; exact Nat.lt_of_lt_of_le (hs1.out b h).1 hle; exact GG.out, fun h => h⟩)
        obtain ⟨_, hz', p0, p1, p2, p3, ka', cap', p4, hkk⟩ := hn.open
        have nlt := hz'.2.1
        have HKr := Lib.hid hK
        have hnx := nf_take (allT p) j hj'
        rw [← hnf.out] at hnx
        have B0 := Box5.new wr (.int .i64 (allT p)[j].kind) (.string (allT p)[j].text) (.int .i64 (allT p)[j].n) (.string (allT p)[j].name) (.slice ka' (allT p)[j].kids.length cap') 24
        have HB := Lib.hid B0; have HNX := Lib.hid hnx
        clear hn hkk hz' hK B0 hnx
        generalize hq : (allT p)[j] = q at *
        clear hq
        go_wp2_with fail
        refine (In_gifts q.kind _ _ (by simp)).mono ?_
        rintro e w3 ⟨rfl, k3⟩
        have B3 := HB.out.kept k3 (fun h => h)
        have K3 : Hid (Kept Nix wr w3) := ((Kept.refl Nix wr).alloc _).quiet k3
        obtain ⟨bl, b0, b1, b2, b3, b4⟩ := B3
        clear p0 p1 p2 p3 p4 k3
        by_cases hg : isGift q.kind
        · have z1 : decide (isGift q.kind) = true := decide_eq_true hg
          have z2 : (q.kind == 24) = false := by unfold isGift at hg; simp; omega
          have e1 : Hid (nfStep (gl, cl) q = (putL gl q.name, cl)) := by
            unfold Hid nfStep; rw [if_pos hg, if_neg (by unfold isGift at hg; omega)]
          have hpl := putL_length gl q.name
          clear hg
          rw [z1]
          go_wp2_with fail
          refine (put_any gl q.name _ w.heap.size w3 (K2.out.trans (HKr.out.trans K3.out)).size (HP1.out.mono K3.out) (by omega)).mono ?_
          rintro e w4 ⟨v4, rfl, P4, k4⟩
          obtain ⟨a4, d4, rfl⟩ := P4.shape
          have F : Hid (Kept Nix w2 w4 ∧ PutV w4 (fun b => w.heap.size ≤ b ∧ b < w4.heap.size) (.slice a4 (putL gl q.name).length d4) (putL gl q.name) ∧ PutV w4 (fun b => w.heap.size ≤ b ∧ b < w4.heap.size) (.slice a2 cl.length d2) cl) :=
            ⟨(HKr.out.trans K3.out).trans k4, P4, (HP2.out.mono K3.out).mono k4⟩
          have b0' := (k4.cell (o := 0) (b := wr.heap.size) bl (fun h => h)).trans b0
          clear P4 k4 b0 b1 b2 b3 b4
          go_wp2_with fail
          go_roundw
          case rel => exact ⟨j + 1, _, _, a4, d4, a2, d2, by omega, by go_num, rfl, rfl, F.out.1, by rw [HNX.out, e1.out]; rfl, by omega, by omega, F.out.2.1, F.out.2.2⟩
          case measure => simp [intOf]; omega
        · have z1 : decide (isGift q.kind) = false := decide_eq_false hg
          rw [z1]
          by_cases h24 : q.kind = 24
          · have z2 : (q.kind == 24) = true := by simpa using h24
            have e1 : Hid (nfStep (gl, cl) q = (gl, putL cl q.name)) := by
              unfold Hid nfStep; rw [if_neg hg, if_pos h24]
            have hpl := putL_length cl q.name
            clear hg h24
            go_wp2_with fail
            refine (put_any cl q.name _ w.heap.size w3 (K2.out.trans (HKr.out.trans K3.out)).size (HP2.out.mono K3.out) (by omega)).mono ?_
            rintro e w4 ⟨v4, rfl, P4, k4⟩
            obtain ⟨a4, d4, rfl⟩ := P4.shape
            have F : Hid (Kept Nix w2 w4 ∧ PutV w4 (fun b => w.heap.size ≤ b ∧ b < w4.heap.size) (.slice a4 (putL cl q.name).length d4) (putL cl q.name) ∧ PutV w4 (fun b => w.heap.size ≤ b ∧ b < w4.heap.size) (.slice a1 gl.length d1) gl) :=
              ⟨(HKr.out.trans K3.out).trans k4, P4, (HP1.out.mono K3.out).mono k4⟩
            clear P4 k4 b0 b1 b2 b3 b4
            go_wp2_with fail
            go_roundw
            case rel => exact ⟨j + 1, _, _, a1, d1, a4, d4, by omega, by go_num, rfl, rfl, F.out.1, by rw [HNX.out, e1.out]; rfl, by omega, by omega, F.out.2.2, F.out.2.1⟩
            case measure => simp [intOf]; omega
          · have z2 : (q.kind == 24) = false := by simpa using h24
            have e1 : Hid (nfStep (gl, cl) q = (gl, cl)) := by
              unfold Hid nfStep; rw [if_neg hg, if_neg h24]
            have F : Hid (Kept Nix w2 w3 ∧ PutV w3 (fun b => w.heap.size ≤ b ∧ b < w3.heap.size) (.slice a1 gl.length d1) gl ∧ PutV w3 (fun b => w.heap.size ≤ b ∧ b < w3.heap.size) (.slice a2 cl.length d2) cl) :=
              ⟨HKr.out.trans K3.out, HP1.out.mono K3.out, HP2.out.mono K3.out⟩
            clear hg h24
            go_wp2_with fail
            go_roundw
            case rel => exact ⟨j + 1, _, _, a1, d1, a2, d2, by omega, by go_num, rfl, rfl, F.out.1, by rw [HNX.out, e1.out]; rfl, by omega, by omega, F.out.2.1, F.out.2.2⟩
            case measure => simp [intOf]; omega
      · obtain rfl : j = sizeT p := by omega
        have hnf2 : (gl, cl) = namesFold (allT p) := by rw [hnf.out, List.take_of_length_le (by rw [HLEN.out]; exact Nat.le_refl _)]
        have F : Hid (RefNamesPost p w (.returned (.tuple #[.slice a1 gl.length d1, .slice a2 cl.length d2, .int .i64 0])) wr) :=
          P.out _ _ ⟨_, rfl, ⟨_, _, rfl, by rw [← hnf2]; exact HP1.out, by rw [← hnf2]; exact HP2.out⟩⟩ (K2.out.trans hK)
        clear hnf2
        go_wp2_with fail
        go_ret3
        exact F.out
  · have hb : (refWrongR p != 0) = true := by simpa using he
    have P : Hid (RefNamesPost p w (.returned (.tuple #[.slice none 0 0, .slice none 0 0, .int .i64 (refWrongR p)])) w1) := ⟨K1.out, by rw [if_neg he]⟩
    clear he
    go_wp2_with fail
    go_ret3
    exact P.out
end Go.Proofs.Ytdnglicgmlldlaa

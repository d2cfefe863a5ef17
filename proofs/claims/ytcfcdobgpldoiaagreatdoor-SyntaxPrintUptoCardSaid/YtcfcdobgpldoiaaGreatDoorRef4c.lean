/- The reference of chapter 4: All. -/
import Derived.Test.YtcfcdobgpldoiaaGreatDoorWin
import Derived.Test.YtcfcdobgpldoiaaGreatDoorLaw4
namespace Go.Proofs.YtcfcdobgpldoiaaGreatDoor
set_option linter.all false
open Go.RowKit

theorem PatAt.open {w : World} {S : Nat → Prop} {b o : Nat} {p : PatT} (h : PatAt w S b o p) : S b ∧ (p.text.size < 1000000000 ∧ p.name.size < 1000000000 ∧ p.kids.length < 1000000000) ∧
    w.cell? ⟨b, o, none⟩ = some (.int .i64 p.kind) ∧ w.cell? ⟨b, o + 1, none⟩ = some (.string p.text) ∧ w.cell? ⟨b, o + 2, none⟩ = some (.int .i64 p.n) ∧ w.cell? ⟨b, o + 3, none⟩ = some (.string p.name) ∧
    ∃ ka cap, w.cell? ⟨b, o + 4, none⟩ = some (.slice ka p.kids.length cap) ∧ PatsAt w S ka p.kids := by
  obtain ⟨k, t, n, nm, kids⟩ := p; unfold PatAt at h; exact h

/-- Five cells that are a pattern's node, its kids in S. -/
def Node5 (w : World) (S : Nat → Prop) (c : List Value) (p : PatT) : Prop :=
  ∃ ka cap, c = [.int .i64 p.kind, .string p.text, .int .i64 p.n, .string p.name, .slice ka p.kids.length cap] ∧ (p.text.size < 1000000000 ∧ p.name.size < 1000000000 ∧ p.kids.length < 1000000000) ∧ PatsAt w S ka p.kids
def Row5 (w : World) (S : Nat → Prop) : List Value → List PatT → Prop
  | cs, [] => cs = []
  | cs, p :: ps => ∃ c rest, cs = c ++ rest ∧ Node5 w S c p ∧ Row5 w S rest ps
theorem Node5.length {w : World} {S : Nat → Prop} {c : List Value} {p : PatT} (h : Node5 w S c p) : c.length = 5 := by obtain ⟨_, _, rfl, _⟩ := h; rfl
theorem Node5.one {w : World} {S : Nat → Prop} {c : List Value} {p : PatT} (h : Node5 w S c p) : ∀ u ∈ c, u.oneCell' = true := by
  obtain ⟨_, _, rfl, _⟩ := h; intro u hu; simp at hu; rcases hu with rfl | rfl | rfl | rfl | rfl <;> rfl
theorem Row5.length {w : World} {S : Nat → Prop} : ∀ {l : List PatT} {cs : List Value}, Row5 w S cs l → cs.length = l.length * 5
  | [], cs, h => by rw [Row5] at h; subst h; rfl
  | p :: ps, cs, h => by
    rw [Row5] at h; obtain ⟨c, r, rfl, h1, h2⟩ := h
    rw [List.length_append, h1.length, h2.length, List.length_cons]; omega
theorem Row5.one {w : World} {S : Nat → Prop} : ∀ {l : List PatT} {cs : List Value}, Row5 w S cs l → ∀ u ∈ cs, u.oneCell' = true
  | [], cs, h => by rw [Row5] at h; subst h; intro u hu; simp at hu
  | p :: ps, cs, h => by
    rw [Row5] at h; obtain ⟨c, r, rfl, h1, h2⟩ := h
    intro u hu; rcases List.mem_append.1 hu with hu | hu; exact h1.one u hu; exact h2.one u hu
theorem Row5.append {w : World} {S : Nat → Prop} : ∀ {l l' : List PatT} {cs cs' : List Value}, Row5 w S cs l → Row5 w S cs' l' → Row5 w S (cs ++ cs') (l ++ l')
  | [], _, cs, _, h, h' => by rw [Row5] at h; subst h; exact h'
  | p :: ps, _, cs, _, h, h' => by
    rw [Row5] at h; obtain ⟨c, r, rfl, h1, h2⟩ := h
    rw [List.append_assoc, List.cons_append, Row5]
    exact ⟨c, _, rfl, h1, h2.append h'⟩
theorem Node5.kept {w w' : World} {S : Nat → Prop} {X : Nat → Prop} {c : List Value} {p : PatT} (h : Node5 w S c p) (hk : Kept X w w') (hs : Safe S X w.heap.size) : Node5 w' S c p := by
  obtain ⟨ka, cap, rfl, hz, hp⟩ := h; exact ⟨ka, cap, rfl, hz, hp.kept hk hs⟩
theorem Row5.kept {w w' : World} {S : Nat → Prop} {X : Nat → Prop} : ∀ {l : List PatT} {cs : List Value}, Row5 w S cs l → Kept X w w' → Safe S X w.heap.size → Row5 w' S cs l
  | [], _, h, _, _ => h
  | p :: ps, cs, h, hk, hs => by
    rw [Row5] at h ⊢; obtain ⟨c, r, rfl, h1, h2⟩ := h
    exact ⟨c, r, rfl, h1.kept hk hs, h2.kept hk hs⟩

structure AllOut (p : PatT) (S : Nat → Prop) (w : World) (v : Value) (w' : World) : Prop where
  row : ∃ cs, Win w' w.heap.size 30 5 v (allT p).length cs ∧ Row5 w' S cs (allT p)
  kept : Kept Nix w w'
def AllPost (p : PatT) (S : Nat → Prop) (w : World) (e : Ending) (w' : World) : Prop := ∃ v, e = .returned v ∧ AllOut p S w v w'

theorem Tryz.infoP : (Tryz.prog.info? 30).map (fun i => (i.zero, i.size, i.bytes)) = some (some (.agg #[.int .i64 0, .string ⟨#[]⟩, .int .i64 0, .string ⟨#[]⟩, .slice none 0 0]), 5, 72) := by kernel_rfl

mutual
theorem allT_length : ∀ p : PatT, (allT p).length = sizeT p
  | .mk k t n nm kids => by rw [allT, List.length_cons, allL_length kids, sizeT]; omega
theorem allL_length : ∀ l : List PatT, (allL l).length = sizeL l
  | [] => rfl
  | p :: ps => by rw [allL, List.length_append, allT_length p, allL_length ps, sizeL]
end
theorem allL_take (l : List PatT) (j : Nat) (hj : j < l.length) : allL (l.take (j + 1)) = allL (l.take j) ++ allT l[j] := by
  induction l generalizing j with
  | nil => simp at hj
  | cons p ps ih =>
    cases j with
    | zero => simp [allL]
    | succ j => simp only [List.take_succ_cons, allL, List.append_assoc, List.getElem_cons_succ]; rw [ih j (by simpa using hj)]
theorem sizeL_take (l : List PatT) (j : Nat) : sizeL (l.take j) ≤ sizeL l := by
  induction l generalizing j with
  | nil => simp
  | cons p ps ih => cases j with
    | zero => simp [sizeL]
    | succ j => simp only [List.take_succ_cons, sizeL]; have := ih j; omega

set_option maxRecDepth 100000 in
set_option maxHeartbeats 1000000 in
theorem All_any : ∀ (m : Nat) (p : PatT) (v : Value) (S : Nat → Prop) (w : World), sizeT p ≤ m → m ≤ 100000000 → PatV w S v p → Safe S Nix w.heap.size → Calls Tryz.prog 39 #[v] w (AllPost p S w) := by
  intro m
  induction m with
  | zero => intro p v S w hm; have := sizeT_pos p; omega
  | succ m ih =>
    intro p v S w hm hmm hp hS
    obtain ⟨k, t, n, nm, kids⟩ := p
    obtain ⟨ka, cap, rfl, hz, hk⟩ := hp
    dsimp only [PatT.kind_mk, PatT.text_mk, PatT.n_mk, PatT.name_mk, PatT.kids_mk] at hz hk ⊢
    obtain ⟨i0, hi, hz0, hz1, hz2⟩ := info_parts Tryz.infoP
    go_enter Tryz.func39, Tryz.ntmps39
    go_wp2_with fail
    have hl : kids.length ≤ m := by have h := length_le_sizeL kids; simp only [sizeT] at hm; omega
    have hsk : sizeL kids ≤ m := by simp only [sizeT] at hm; omega
    have K0 : Kept Nix w ((w.alloc (.cells #[.int .i64 k, .string t, .int .i64 n, .string nm, .slice ka kids.length cap] 30)).alloc (.cells #[.int .i64 k, .string t, .int .i64 n, .string nm, .slice ka kids.length cap] 30)) := ((Kept.refl _ _).alloc _).alloc _
    have W0 : Win ((w.alloc (.cells #[.int .i64 k, .string t, .int .i64 n, .string nm, .slice ka kids.length cap] 30)).alloc (.cells #[.int .i64 k, .string t, .int .i64 n, .string nm, .slice ka kids.length cap] 30)) w.heap.size 30 5
        (.slice (some ⟨w.heap.size + 1, 0, none⟩) 1 1) 1 [.int .i64 k, .string t, .int .i64 n, .string nm, .slice ka kids.length cap] :=
      ⟨rfl, .inr ⟨w.heap.size + 1, 0, 1, _, rfl, by omega, by have := heap_alloc_new (w.alloc (.cells #[.int .i64 k, .string t, .int .i64 n, .string nm, .slice ka kids.length cap] 30)) (.cells #[.int .i64 k, .string t, .int .i64 n, .string nm, .slice ka kids.length cap] 30); simpa using this, Nat.le_refl _, by decide, by simp, by simp⟩⟩
    have R0 : Row5 ((w.alloc (.cells #[.int .i64 k, .string t, .int .i64 n, .string nm, .slice ka kids.length cap] 30)).alloc (.cells #[.int .i64 k, .string t, .int .i64 n, .string nm, .slice ka kids.length cap] 30)) S [.int .i64 k, .string t, .int .i64 n, .string nm, .slice ka kids.length cap] [.mk k t n nm kids] := by
      rw [Row5]; exact ⟨_, [], (List.append_nil _).symm, ⟨ka, cap, rfl, hz, hk.kept K0 hS⟩, rfl⟩
    obtain ⟨w0, hw0⟩ : ∃ w0, w0 = ((w.alloc (.cells #[.int .i64 k, .string t, .int .i64 n, .string nm, .slice ka kids.length cap] 30)).alloc (.cells #[.int .i64 k, .string t, .int .i64 n, .string nm, .slice ka kids.length cap] 30)) := ⟨_, rfl⟩
    rw [← hw0] at K0 W0 R0 ⊢
    clear hw0 hm
    go_loopw [3, 11] (fun v i wr => ∃ (j : Nat) (cs : List Value) (a : Option Addr) (c : Nat), j ≤ kids.length ∧ i = .int .i64 j ∧ v = .slice a (1 + sizeL (kids.take j)) c ∧ Win wr w.heap.size 30 5 v (1 + sizeL (kids.take j)) cs ∧ Row5 wr S cs (.mk k t n nm kids :: allL (kids.take j)) ∧ Kept Nix w wr) (fun _ i _ => kids.length - (intOf i).toNat)
    case atStart => exact ⟨0, _, some ⟨w.heap.size + 1, 0, none⟩, 1, Nat.zero_le _, rfl, by simp [sizeL], by simpa [sizeL] using W0, by simpa [allL] using R0, K0⟩
    case round =>
      obtain ⟨j, cs, a, c, hj, rfl, rfl, hW, hR, hK⟩ := hrel
      have hk' := hk.kept hK hS
      by_cases hlt : j < kids.length
      · obtain ⟨kb, ko, rfl⟩ := PatsAt_head hk' (by omega)
        have hkid := PatsAt_get kids kb ko j hlt hk'
        obtain ⟨hSb, hz', p0, p1, p2, p3, ka', cap', p4, hkk⟩ := hkid.open
        have hszj : sizeT kids[j] ≤ m := by have := sizeT_get kids j hlt; omega
        have htk := sizeL_take kids (j + 1)
        have hat := allL_take kids j hlt
        have hst : sizeL (kids.take (j + 1)) = sizeL (kids.take j) + sizeT kids[j] := by rw [← allL_length, hat, List.length_append, allL_length, allT_length]
        have hbd : 1 + sizeL (kids.take j) + sizeT kids[j] ≤ 200000000 := by omega
        have HAT := Lib.hid hat; have HST := Lib.hid hst; clear hat hst
        have hSr : Safe S Nix wr.heap.size := hS.mono hK.size
        clear hk' hkid
        go_wp2_with fail
        refine (ih kids[j] _ S _ hszj (by omega) ⟨ka', cap', rfl, hz', hkk.kept ((Kept.refl Nix wr).alloc _) hSr⟩ (hSr.mono (by simp))).mono ?_
        rintro e w2 ⟨v2, rfl, ⟨cs2, hW2, hR2⟩, hk2⟩
        have k2 : Kept Nix wr w2 := ((Kept.refl Nix wr).alloc _).quiet hk2
        have hKK : Hid (Kept Nix w w2) := hK.quiet k2
        have hWk := hW.kept k2 (fun _ _ h => h)
        have hRk := hR.kept k2 hSr
        rw [allT_length] at hW2
        have hpos := sizeT_pos kids[j]
        rcases hW2.cells with ⟨_, h0⟩ | ⟨g2, o2, cap2, rfl, _, _, _, _, hc2⟩
        · omega
        have hsrc : ∀ w', w' = w2 → Src Tryz.prog 5 28 (.slice (some ⟨g2, o2, none⟩) (sizeT kids[j]) cap2) (sizeT kids[j]) cs2 w' := by
          rintro w' rfl
          refine Src.ofSlice w' Tryz.underlying28 _ _ _ cs2 hW2.1 (fun x u hu => ?_) hR2.one
          have e1 : (⟨g2, o2, none⟩ : Addr).add x = ⟨g2, o2 + x, none⟩ := by unfold Addr.add; split <;> simp_all
          rw [e1]; exact (hc2 x u hu).1
        have HS := Lib.hid hsrc; have HWK := Lib.hid hWk; have HRK := Lib.hid hRk; have HR2 := Lib.hid hR2
        have hb2 : w.heap.size ≤ w2.heap.size := hKK.out.size
        have hown : ∀ g, (Value.slice a (1 + sizeL (kids.take j)) c).ownBlock = some g → w.heap.size ≤ g := fun g hg => (hWk.lt g hg).1
        have HOW := Lib.hid hown
        have hSz : Hid (Safe S Nix w2.heap.size) := hS.mono hb2
        clear hsrc hWk hRk hW2 hR2 hc2 hW hR hK k2 hk2 hown p0 p1 p2 p3 p4 hkk
        go_wp2_with (at_builtin; go_loud (refine wpList_append_win _ rfl (.tmp 15) (.tmp 17) 28 28 rfl w.heap.size 30 i0 (.agg #[.int .i64 0, .string ⟨#[]⟩, .int .i64 0, .string ⟨#[]⟩, .slice none 0 0]) 5 72 Tryz.underlying28 hi hz0 hz1 hz2 rfl _ (1 + sizeL (kids.take j)) cs rfl HWK.out _ (sizeT kids[j]) cs2 rfl (HS.out _ rfl) (by unfold maxLen; omega) (by omega) hb2 ?_); intro a' c' w3 hW3 hg3 _)
        have R3 := (HRK.out.append HR2.out).kept ((Kept.refl (fun k => w.heap.size ≤ k) w2).grown hg3 (fun k hk => .inl (HOW.out k hk))) (fun b hb => ⟨(hSz.out b hb).1, by have := (hS b hb).1; omega⟩)
        have K3 : Kept Nix w w3 := hKK.out.grown hg3 (fun k hk => .inr (HOW.out k hk))
        have hn : 1 + sizeL (kids.take j) + sizeT kids[j] = 1 + sizeL (kids.take (j + 1)) := by rw [HST.out]; omega
        rw [hn] at hW3
        have W3 := Lib.hid hW3; have R3' := Lib.hid R3; have HN := Lib.hid hn
        clear hW3 hg3 R3 hn HRK HR2 HWK HS
        rw [HN.out]
        go_wp2_with fail
        go_roundw
        case rel => exact ⟨j + 1, cs ++ cs2, a', c', by omega, by go_num, rfl, W3.out, by rw [HAT.out]; exact R3'.out, K3⟩
        case measure => simp [intOf]; omega
      · obtain rfl : j = kids.length := by omega
        rw [List.take_length] at hW hR
        have fin : Hid (AllPost (.mk k t n nm kids) S w (.returned (.slice a (1 + sizeL (kids.take kids.length)) c)) wr) := by
          rw [List.take_length]
          exact ⟨_, rfl, ⟨cs, by rw [allT_length, sizeT]; exact hW, by rw [allT]; exact hR⟩, hK⟩
        clear hW hR hK
        go_wp2_with fail
        go_ret
        exact fin.out
end Go.Proofs.YtcfcdobgpldoiaaGreatDoor

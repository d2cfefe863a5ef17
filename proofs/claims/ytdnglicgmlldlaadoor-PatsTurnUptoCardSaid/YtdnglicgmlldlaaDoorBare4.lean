/- The document's Bare: numbers. -/
import Derived.Test.YtdnglicgmlldlaaDoorBare1
namespace Go.Proofs.YtdnglicgmlldlaaDoor
open Go.RowKit

set_option maxRecDepth 100000 in
set_option maxHeartbeats 8000000 in
theorem bare_num (k : Int) (t : ByteArray) (n : Int) (nm : ByteArray) (kids : List PatT) (ka : Option Addr) (cap : Nat) (S : Nat → Prop) (w : World) (hk : PatsAt w S ka kids) (hsf : Safe S Nix w.heap.size) (hz : t.size < 1000000000 ∧ nm.size < 1000000000 ∧ kids.length < 1000000000) (hc : isNumK k) (hih : BareIH S kids) :
    Calls Tryd.prog 10 #[.agg #[.int .i64 k, .string t, .int .i64 n, .string nm, .slice ka kids.length cap]] w (BarePost (.mk k t n nm kids) w) := by
  obtain ⟨i0, hi0, hz0, hz1, hz2⟩ := info_parts Tryd.infoP
  have hc0 := hc
  try simp only [isTextK, isNumK, isNameK] at hc
  have hb : Hid (bareT (.mk k t n nm kids) = .mk k ⟨#[]⟩ n ⟨#[]⟩ (bareL kids)) := by unfold Hid; rw [bareT]; rw [if_neg (by unfold isTextK; omega), if_pos (by unfold isNumK; omega), if_neg (by unfold isNameK; omega)] <;> rfl
  have e1 : (k == 1) = false := by simp; omega
  have dT : decide (isTextK k) = false := decide_eq_false (by unfold isTextK; omega)
  have dN : decide (isNumK k) = true := decide_eq_true (by unfold isNumK; omega)
  have dM : decide (isNameK k) = false := decide_eq_false (by unfold isNameK; omega)
  have I00 := BareI.start (p := .mk k t n nm kids) (cap := cap) hk hsf
  dsimp only [PatT.kind_mk, PatT.text_mk, PatT.n_mk, PatT.name_mk, PatT.kids_mk] at I00
  obtain ⟨w0, hw0⟩ : ∃ w0, w0 = (((w.alloc (.cells #[.int .i64 k, .string t, .int .i64 n, .string nm, .slice ka kids.length cap] 24)).alloc (.cells #[.int .i64 0, .string ⟨#[]⟩, .int .i64 0, .string ⟨#[]⟩, .slice none 0 0] 24)).alloc (.cells #[.int .i64 k, .string ⟨#[]⟩, .int .i64 0, .string ⟨#[]⟩, .slice none 0 0] 24)) := ⟨_, rfl⟩
  rw [← hw0] at I00
  have I0 := Lib.hid I00; have HW0 := Lib.hid hw0; have HIH := Lib.hid hih; have HZ := Lib.hid hz
  have hkl := hz.2.2
  have hsw := hsf
  clear I00 hw0 hk hsf hih hc hc0 hz
  obtain ⟨c0, c1, c2, c3, c4, _⟩ := I0.out.box.cells
  dsimp only [PatT.kind_mk, PatT.text_mk, PatT.n_mk, PatT.name_mk, PatT.kids_mk] at c0 c1 c2 c3 c4
  obtain ⟨_, _, _, _, _, of⟩ := I0.out.out.cells
  have f1 := of 1; have f2 := of 2; have f3 := of 3; clear of
  go_enter Tryd.func10, Tryd.ntmps10
  go_upto_region 2 with fail
  rw [← HW0.out]
  go_wp2_with fail
  refine (texts_any k _).mono ?_
  rintro e u1 ⟨rfl, k_⟩
  have J1 := Lib.hid (I0.out.next k_)
  rw [dT]
  clear k_ c0 c1 c2 c3 c4 f1 f2 f3
  obtain ⟨c0, c1, c2, c3, c4, _⟩ := J1.out.box.cells
  dsimp only [PatT.kind_mk, PatT.text_mk, PatT.n_mk, PatT.name_mk, PatT.kids_mk] at c0 c1 c2 c3 c4
  obtain ⟨_, _, _, _, _, of⟩ := J1.out.out.cells
  have f1 := of 1; have f2 := of 2; have f3 := of 3; clear of
  go_wp2_with fail
  refine (numbers_any k _).mono ?_
  rintro e u2 ⟨rfl, k_⟩
  have J2 := Lib.hid (J1.out.next k_)
  rw [dN]
  clear k_ c0 c1 c2 c3 c4 f1 f2 f3
  obtain ⟨c0, c1, c2, c3, c4, _⟩ := J2.out.box.cells
  dsimp only [PatT.kind_mk, PatT.text_mk, PatT.n_mk, PatT.name_mk, PatT.kids_mk] at c0 c1 c2 c3 c4
  obtain ⟨_, _, _, _, _, of⟩ := J2.out.out.cells
  have f1 := of 1; have f2 := of 2; have f3 := of 3; clear of
  have J3 := Lib.hid (J2.out.put (k1 (o := 2) u2 (.int .i64 n)) (J2.out.out.st _).2.1)
  go_wp2_with fail
  refine (In_any k [21, 22, 23, 24] _ (names_list k) _ 4 3 (0, 0) _ (heap_new2 (by simp [World.setCell])) (by decide)).mono ?_
  rintro e u4 ⟨rfl, hu⟩
  subst hu
  rw [dM]
  have kI : Kept Nix (u2.setCell ⟨w.heap.size + 2, 2, none⟩ (.int .i64 n)) ((u2.setCell ⟨w.heap.size + 2, 2, none⟩ (.int .i64 n)).alloc (.cells #[.int .i64 21, .int .i64 22, .int .i64 23, .int .i64 24] 3)) := (Kept.refl _ _).alloc _
  have J4 := Lib.hid (J3.out.next kI)
  clear kI c0 c1 c2 c3 c4 f1 f2 f3
  obtain ⟨c0, c1, c2, c3, c4, _⟩ := J4.out.box.cells
  dsimp only [PatT.kind_mk, PatT.text_mk, PatT.n_mk, PatT.name_mk, PatT.kids_mk] at c0 c1 c2 c3 c4
  obtain ⟨_, _, _, _, _, of⟩ := J4.out.out.cells
  have f1 := of 1; have f2 := of 2; have f3 := of 3; clear of
  go_wp2_with fail
  go_loopw [36] (fun x wr => ∃ (j : Nat) (a : Option Addr) (c : Nat), j ≤ kids.length ∧ x = .int .i64 j ∧ Hid (BareI S (.mk k t n nm kids) ka cap w ⟨#[]⟩ n ⟨#[]⟩ (bareL (kids.take j)) (.slice a (bareL (kids.take j)).length c) wr)) (fun x _ => kids.length - (intOf x).toNat)
  case atStart => exact ⟨0, none, 0, Nat.zero_le _, rfl, by simpa [bareL] using J4⟩
  case round =>
    obtain ⟨j, a, c, hj, rfl, I⟩ := hrel
    clear c0 c1 c2 c3 c4 f1 f2 f3
    by_cases hlt : j < kids.length
    · have hlj : (bareL (kids.take j)).length = j := by rw [bareL_len, List.length_take]; omega
      obtain ⟨kb, ko, rfl⟩ := PatsAt_head I.out.kids (by show 0 < kids.length; omega)
      obtain ⟨_, hzk, q0, q1, q2, q3, kc, kcap, q4, hkk⟩ := (PatsAt_get kids kb ko j hlt I.out.kids).open
      have kA : Kept Nix wr (wr.alloc (.cells #[.int .i64 kids[j].kind, .string kids[j].text, .int .i64 kids[j].n, .string kids[j].name, .slice kc kids[j].kids.length kcap] 24)) := (Kept.refl Nix wr).alloc _
      have I1 := Lib.hid (I.out.next kA)
      have kD : Kept Nix (wr.alloc (.cells #[.int .i64 kids[j].kind, .string kids[j].text, .int .i64 kids[j].n, .string kids[j].name, .slice kc kids[j].kids.length kcap] 24)) (wr.alloc (.cells #[.int .i64 kids[j].kind, .string kids[j].text, .int .i64 kids[j].n, .string kids[j].name, .slice kc kids[j].kids.length kcap] 24)).drew := (Kept.refl Nix _).drew
      have hsr : Safe S Nix wr.heap.size := hsw.mono I.out.kept.size
      have hC : Hid (Calls Tryd.prog 10 #[(.agg #[.int .i64 kids[j].kind, .string kids[j].text, .int .i64 kids[j].n, .string kids[j].name, .slice kc kids[j].kids.length kcap])] (wr.alloc (.cells #[.int .i64 kids[j].kind, .string kids[j].text, .int .i64 kids[j].n, .string kids[j].name, .slice kc kids[j].kids.length kcap] 24)).drew (BarePost kids[j] (wr.alloc (.cells #[.int .i64 kids[j].kind, .string kids[j].text, .int .i64 kids[j].n, .string kids[j].name, .slice kc kids[j].kids.length kcap] 24)).drew)) := HIH.out j hlt _ _ ⟨kc, kcap, rfl, hzk, hkk.kept (kA.trans kD) hsr⟩ (hsr.mono (kA.trans kD).size)
      have I2 := Lib.hid (I1.out.next kD)
      obtain ⟨o0, o1, o2, o3, o4, of⟩ := I2.out.out.cells
      have hof := of 4
      obtain ⟨g0, g1, g2, g3, g4, _⟩ := I1.out.out.cells
      have hst := Lib.hid (bareL_take kids j hlt)
      have hKF := Lib.hid I.out.kept.size
      clear kA hkk hzk of hsr kD
      generalize hll : bareL (kids.take j) = l at *
      have hlz : l.length ≤ 1000000000 := by omega
      have HLJ := Lib.hid hlj
      clear hlj
      go_wp2_with fail
      go_region_law (first
        | (refine step_append_win (w := w3.alloc (.cells #[.int .i64 (bareT kids[j]).kind, .string (bareT kids[j]).text, .int .i64 (bareT kids[j]).n, .string (bareT kids[j]).name, .slice kc2 (bareT kids[j]).kids.length kcap2] 24)) rfl (.tmp 41) (.tmp 44) 22 22 rfl (w.heap.size + 3) 24 i0 (.agg #[.int .i64 0, .string ⟨#[]⟩, .int .i64 0, .string ⟨#[]⟩, .slice none 0 0]) 5 72 Tryd.underlying22 hi0 hz0 hz1 hz2 rfl (.slice a l.length c) l.length cs (by simp [Act.eval]) WB.out _ 1 [.int .i64 (bareT kids[j]).kind, .string (bareT kids[j]).text, .int .i64 (bareT kids[j]).n, .string (bareT kids[j]).name, .slice kc2 (bareT kids[j]).kids.length kcap2] (by simp [Act.eval]) SR.out (by unfold maxLen; omega) (by omega) hb3 ?_; intro a4 c4 w4 hW4 hg4 ho4; have LM4 := Lib.hid (LM.out a4 c4 w4 hW4 hg4 (by simpa using ho4)); have of4 := (HF.out w4 hg4).1; have oc4 := (HF.out w4 hg4).2)
        | (go_simp; go_at_call 10; (with_reducible refine (Calls.mono hC.out ?_)); (rintro e w3 ⟨v2, rfl, ⟨S2, hS2, ⟨kc2, kcap2, rfl, hz2', hk2⟩⟩, K3⟩); (have I3 := Lib.hid (I2.out.next K3)); (obtain ⟨p0, p1, p2, p3, p4, pf⟩ := I3.out.out.cells); (have p4' : (w3.alloc (.cells #[.int .i64 (bareT kids[j]).kind, .string (bareT kids[j]).text, .int .i64 (bareT kids[j]).n, .string (bareT kids[j]).name, .slice kc2 (bareT kids[j]).kids.length kcap2] 24)).cell? ⟨w.heap.size + 2, 4, none⟩ = some (.slice a l.length c) := (((Kept.refl Nix w3).alloc _).cell I3.out.out.lt (fun h => h)).trans p4); (obtain ⟨cs, S1, hw1, hr1, hS1⟩ := I2.out.own); (have KK3 := Lib.hid K3); (have WB := Lib.hid ((hw1.kept K3 (fun _ _ h => h)).alloc (.cells #[.int .i64 (bareT kids[j]).kind, .string (bareT kids[j]).text, .int .i64 (bareT kids[j]).n, .string (bareT kids[j]).name, .slice kc2 (bareT kids[j]).kids.length kcap2] 24))); (have SR : Hid (Src Tryd.prog 5 22 (.slice (some ⟨w3.heap.size, 0, none⟩) 1 1) 1 [.int .i64 (bareT kids[j]).kind, .string (bareT kids[j]).text, .int .i64 (bareT kids[j]).n, .string (bareT kids[j]).name, .slice kc2 (bareT kids[j]).kids.length kcap2] (w3.alloc (.cells #[.int .i64 (bareT kids[j]).kind, .string (bareT kids[j]).text, .int .i64 (bareT kids[j]).n, .string (bareT kids[j]).name, .slice kc2 (bareT kids[j]).kids.length kcap2] 24))) := Src.ofSlice _ Tryd.underlying22 _ _ _ _ rfl (World.news_of_block (fr := (0, 0)) (cs := #[.int .i64 (bareT kids[j]).kind, .string (bareT kids[j]).text, .int .i64 (bareT kids[j]).n, .string (bareT kids[j]).name, .slice kc2 (bareT kids[j]).kids.length kcap2]) (heap_alloc_new w3 _)) (by intro u hu; simp at hu; rcases hu with rfl | rfl | rfl | rfl | rfl <;> rfl)); (have hb3 : w.heap.size + 3 ≤ (w3.alloc (.cells #[.int .i64 (bareT kids[j]).kind, .string (bareT kids[j]).text, .int .i64 (bareT kids[j]).n, .string (bareT kids[j]).name, .slice kc2 (bareT kids[j]).kids.length kcap2] 24)).heap.size := by have := I3.out.out.lt; simp; omega); (have LM : Hid (∀ (a' : Option Addr) (c' : Nat) (w4 : World), Win w4 (w.heap.size + 3) 24 5 (.slice a' (l.length + 1) c') (l.length + 1) (cs ++ [.int .i64 (bareT kids[j]).kind, .string (bareT kids[j]).text, .int .i64 (bareT kids[j]).n, .string (bareT kids[j]).name, .slice kc2 (bareT kids[j]).kids.length kcap2]) → (w3.alloc (.cells #[.int .i64 (bareT kids[j]).kind, .string (bareT kids[j]).text, .int .i64 (bareT kids[j]).n, .string (bareT kids[j]).name, .slice kc2 (bareT kids[j]).kids.length kcap2] 24)).grownBy w4 (Value.slice a l.length c).ownBlock → ((Value.slice a' (l.length + 1) c').ownBlock = (Value.slice a l.length c).ownBlock ∨ (Value.slice a' (l.length + 1) c').ownBlock = some (w3.heap.size + 1)) → BareI S (.mk k t n nm kids) (some ⟨kb, ko, none⟩) cap w ⟨#[]⟩ n ⟨#[]⟩ (l ++ [bareT kids[j]]) (.slice a' (l.length + 1) c') (w4.setCell ⟨w.heap.size + 2, 4, none⟩ (.slice a' (l.length + 1) c'))) := fun a' c' w4 x1 x2 x3 => bare_more I2.out hw1 hr1 hS1 KK3.out hz2' hS2 hk2 x1 x2 x3); (have HF : Hid (∀ w4 : World, (w3.alloc (.cells #[.int .i64 (bareT kids[j]).kind, .string (bareT kids[j]).text, .int .i64 (bareT kids[j]).n, .string (bareT kids[j]).name, .slice kc2 (bareT kids[j]).kids.length kcap2] 24)).grownBy w4 (Value.slice a l.length c).ownBlock → w4.frozen? ⟨w.heap.size + 2, 4, none⟩ = false ∧ w4.cell? ⟨w.heap.size + 2, 4, none⟩ = some (.slice a l.length c)) := fun w4 hg => by have hlt3 := I3.out.out.lt; have hx := hg.block (w.heap.size + 2) (by simp; omega) (fun e => by have := (hw1.lt _ e.symm).1; omega); have hy := I3.out.out; unfold Five at hy; exact ⟨by simp [World.frozen?, hx, Below.heap_alloc _ _ _ hlt3, hy], by simp [World.cell?, hx, Below.heap_alloc _ _ _ hlt3, hy]⟩)))
      all_goals
        go_wp2_with fail
        go_roundw
        case rel => exact ⟨j + 1, a4, c4, by omega, by go_num, by rw [hst.out, List.length_append]; exact LM4⟩
        case measure => simp [intOf]; omega
    · obtain rfl : j = kids.length := by omega
      rw [List.take_length] at I
      obtain ⟨o0, o1, o2, o3, o4, _⟩ := I.out.out.cells
      dsimp only [PatT.kind_mk, PatT.text_mk, PatT.n_mk, PatT.name_mk, PatT.kids_mk] at o0
      obtain ⟨z0, z1, z2, z3, z4, zf⟩ := Five.cells I.out.zero
      have f0 := zf 0; have f1 := zf 1; have f2 := zf 2; have f3 := zf 3; have f4 := zf 4; clear zf
      go_wp2_with fail
      exact ret_bare rfl rfl I.out hb.out rfl ⟨by first | exact HZ.out.1 | decide, by first | exact HZ.out.2.1 | decide, by rw [bareL_len]; exact hkl⟩
end Go.Proofs.YtdnglicgmlldlaaDoor

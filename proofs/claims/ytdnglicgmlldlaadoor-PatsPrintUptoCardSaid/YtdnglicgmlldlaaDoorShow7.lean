/- The document's Show of any right pattern, and its Print. -/
import Derived.Test.YtdnglicgmlldlaaDoorShow6
import Derived.Test.YtdnglicgmlldlaaDoorPrint
import Derived.Test.YtdnglicgmlldlaaDoorRef4e
namespace Go.Proofs.YtdnglicgmlldlaaDoor
open Go.RowKit

theorem show_all : ∀ (m : Nat) (p : PatT) (v : Value) (S : Nat → Prop) (i : Nat) (w : World), sizeT p ≤ m → okT p → PatV w S v p → Safe S Nix w.heap.size → i ≤ 2 → (showF p i).length ≤ big → ShOk p i v w := by
  intro m
  induction m with
  | zero => intro p v S i w hm; have := sizeT_pos p; omega
  | succ m ih =>
    intro p v S i w hm hok hp hS hi hl
    obtain ⟨k, t, n, nm, kids⟩ := p
    have hn := hok.self
    obtain ⟨ka, cap, rfl, hz, hk⟩ := hp
    dsimp only [PatT.kind_mk, PatT.text_mk, PatT.n_mk, PatT.name_mk, PatT.kids_mk] at hz hk ⊢
    obtain ⟨⟨h1, h24⟩, _⟩ := node_facts hn
    have hih : ShIH S kids := fun j hj v i w hv hs hi hl => ih kids[j] v S i w (by have := sizeT_get kids j hj; simp only [sizeT] at hm; omega) (hok.kids.get j hj) hv hs hi hl
    by_cases c1 : k = 1
    · exact show_lit i k t n nm kids ka cap S w hk hS hn hl c1
    by_cases c2 : isTextK k
    · exact show_text i k t n nm kids ka cap S w hk hS hn hl c2
    by_cases c3 : isNumK k
    · exact show_num i k t n nm kids ka cap S w hk hS hn hl c3
    by_cases c4 : k = 23 ∨ k = 24
    · exact show_name i k t n nm kids ka cap S w hk hS hn hl c4
    by_cases c5 : k = 12 ∨ k = 13 ∨ k = 14 ∨ k = 15 ∨ k = 16 ∨ k = 17
    · exact show_word i k t n nm kids ka cap S w hk hS hn hl c5
    by_cases c6 : k = 20
    · subst c6; exact show_arbno i t n nm kids ka cap S w hk hS hn hl hih
    by_cases c7 : k = 21
    · subst c7; exact show_cond i t n nm kids ka cap S w hk hS hn hl hih
    by_cases c8 : k = 22
    · subst c8; exact show_imm i t n nm kids ka cap S w hk hS hn hl hih
    by_cases c9 : k = 18
    · subst c9
      by_cases hp : i < 1
      · exact show_catP i t n nm kids ka cap S w hk hS hn hl hz.2.2 hih hp
      · exact show_cat i t n nm kids ka cap S w hk hS hn hl hz.2.2 hih hp
    by_cases c10 : k = 19
    · subst c10
      by_cases hp : i < 2
      · exact show_altP i t n nm kids ka cap S w hk hS hn hl hz.2.2 hih hp
      · exact show_alt i t n nm kids ka cap S w hk hS hn hl hz.2.2 hih hp
    · unfold isTextK isNumK at *; omega

set_option maxRecDepth 100000 in
set_option maxHeartbeats 4000000 in
theorem rprint_any (p : PatT) (v : Value) (w : World) (hp : PatV w (· < w.heap.size) v p) (hsz : sizeT p ≤ 100000000) : Calls Tryd.prog 6 #[v] w (PrintQ p w) := by
  obtain ⟨ka, cap, rfl, hz, hk⟩ := hp
  have kA : Kept Nix w (w.alloc (.cells #[.int .i64 p.kind, .string p.text, .int .i64 p.n, .string p.name, .slice ka p.kids.length cap] 24)) := (Kept.refl _ _).alloc _
  obtain ⟨w1, hw1⟩ : ∃ w1, w1 = (w.alloc (.cells #[.int .i64 p.kind, .string p.text, .int .i64 p.n, .string p.name, .slice ka p.kids.length cap] 24)) := ⟨_, rfl⟩
  rw [← hw1] at kA
  have PV : Hid (PatV w1 (· < w.heap.size) (.agg #[.int .i64 p.kind, .string p.text, .int .i64 p.n, .string p.name, .slice ka p.kids.length cap]) p) := ⟨ka, cap, rfl, hz, hk.kept kA (fun b hb => ⟨hb, fun h => h⟩)⟩
  have S1 : Hid (Safe (· < w.heap.size) Nix w1.heap.size) := fun b hb => ⟨Nat.lt_of_lt_of_le hb kA.size, fun h => h⟩
  have F1 : Hid (Five w.heap.size (.int .i64 p.kind) (.string p.text) (.int .i64 p.n) (.string p.name) (.slice ka p.kids.length cap) w1) := by rw [hw1]; exact heap_alloc_new w _
  obtain ⟨c0, c1, c2, c3, c4, _⟩ := F1.out.cells
  have KA := Lib.hid kA; have HW1 := Lib.hid hw1
  clear kA hz hk hw1
  go_enter Tryd.func6, Tryd.ntmps6
  go_upto_region 1 with fail
  rw [← HW1.out]
  go_wp2_with fail
  refine (refWrong_any p _ _ w1 hsz PV.out S1.out).mono ?_
  rintro e w2 ⟨rfl, K2⟩
  have hwr : refWrongR p = wrongF p := (wrongF_eq p).symm
  rw [hwr]
  have F2 := F1.out.kept K2 (fun h => h)
  obtain ⟨d0, d1, d2, d3, d4, _⟩ := F2.cells
  have KK2 := Lib.hid (KA.out.trans K2)
  have PV2 : Hid (PatV w2 (· < w.heap.size) (.agg #[.int .i64 p.kind, .string p.text, .int .i64 p.n, .string p.name, .slice ka p.kids.length cap]) p) := by
    obtain ⟨x1, x2, x3, x4, x5⟩ := PV.out
    exact ⟨x1, x2, x3, x4, x5.kept K2 S1.out⟩
  have S2 := Lib.hid (S1.out.mono K2.size)
  clear c0 c1 c2 c3 c4 F2 K2 hwr
  by_cases hw : wrongF p = 0
  · have hb : (wrongF p != 0) = false := by rw [hw]; rfl
    obtain ⟨hok, hsz4⟩ := wrong_ok hw
    have hlen := show_len p 2 hok
    have HOK := Lib.hid hok
    have HWZ := Lib.hid hw
    clear hok hw
    go_wp2_with fail
    refine Calls.mono (show_all 4096 p _ _ 2 w2 hsz4 HOK.out PV2.out S2.out (by omega) (by unfold big; omega)) ?_
    rintro e w3 ⟨rfl, K3⟩
    have KK3 := Lib.hid (KK2.out.trans K3)
    clear d0 d1 d2 d3 d4 K3
    by_cases hl : 65536 < (showF p 2).length
    · have hl1 : decide ((65536 : Int) < ((showF p 2).length : Int)) = true := decide_eq_true (by omega)
      have hr : printF p = ([], 4) := by unfold printF; rw [if_neg (by simp [HWZ.out]), if_pos hl]
      have HR := Lib.hid hr
      clear hr hlen
      go_wp2_with fail
      exact bodyPost_ret (v := .tuple #[.string ⟨#[]⟩, .int .i64 4]) (by simp [results, Tryd.results6, go_sem]) rfl ⟨by rw [HR.out], KK3.out⟩
    · have hl1 : decide ((65536 : Int) < ((showF p 2).length : Int)) = false := decide_eq_false (by omega)
      have hr : printF p = (showF p 2, 0) := by unfold printF; rw [if_neg (by simp [HWZ.out]), if_neg hl]
      have HR := Lib.hid hr
      clear hr hlen
      go_wp2_with fail
      exact bodyPost_ret (v := .tuple #[.string ⟨(showF p 2).toArray⟩, .int .i64 0]) (by simp [results, Tryd.results6, go_sem]) rfl ⟨by rw [HR.out], KK3.out⟩
  · have hb : (wrongF p != 0) = true := by simpa using hw
    have hr : printF p = ([], wrongF p) := by unfold printF; rw [if_pos hw]
    have HR := Lib.hid hr
    clear hr
    go_wp2_with fail
    exact bodyPost_ret (v := .tuple #[.string ⟨#[]⟩, .int .i64 (wrongF p)]) (by simp [results, Tryd.results6, go_sem]) rfl ⟨by rw [HR.out], KK2.out⟩

set_option maxRecDepth 100000 in
set_option maxHeartbeats 4000000 in
theorem printlaw_walk (p : PatT) (v : Value) (w : World) (hp : PatV w (· < w.heap.size) v p) (hsz : sizeT p ≤ 100000000) (hg : Glob w) (hgl : 1 < w.heap.size ∧ 0 < w.heap.size) :
    Calls Tryd.prog 3 #[v] w (BoolQ true w) := by
  obtain ⟨ka, cap, rfl, hz, hk⟩ := hp
  have kA : Kept Nix w (w.alloc (.cells #[.int .i64 p.kind, .string p.text, .int .i64 p.n, .string p.name, .slice ka p.kids.length cap] 24)) := (Kept.refl _ _).alloc _
  obtain ⟨w1, hw1⟩ : ∃ w1, w1 = (w.alloc (.cells #[.int .i64 p.kind, .string p.text, .int .i64 p.n, .string p.name, .slice ka p.kids.length cap] 24)) := ⟨_, rfl⟩
  rw [← hw1] at kA
  have PV : Hid (PatV w1 (· < w1.heap.size) (.agg #[.int .i64 p.kind, .string p.text, .int .i64 p.n, .string p.name, .slice ka p.kids.length cap]) p) := ⟨ka, cap, rfl, hz, hk.to kA (fun b hb => ⟨hb, fun h => h⟩) (fun b hb => Nat.lt_of_lt_of_le hb kA.size)⟩
  have F1 : Hid (Five w.heap.size (.int .i64 p.kind) (.string p.text) (.int .i64 p.n) (.string p.name) (.slice ka p.kids.length cap) w1) := by rw [hw1]; exact heap_alloc_new w _
  have G1 := Lib.hid (hg.below kA.below hgl)
  have hs1 := kA.size
  obtain ⟨c0, c1, c2, c3, c4, _⟩ := F1.out.cells
  have KA := Lib.hid kA; have HW1 := Lib.hid hw1
  clear kA hz hk hw1 hg
  go_enter Tryd.func3, Tryd.ntmps3
  go_upto_region 1 with fail
  rw [← HW1.out]
  go_wp2_with fail
  refine (print_any p _ w1 PV.out hsz G1.out (by omega)).mono ?_
  rintro e w2 ⟨rfl, K2⟩
  obtain ⟨d0, d1, d2, d3, d4, _⟩ := (F1.out.kept K2 (fun h => h)).cells
  have KK2 := Lib.hid (KA.out.trans K2)
  have PV2 : Hid (PatV w2 (· < w2.heap.size) (.agg #[.int .i64 p.kind, .string p.text, .int .i64 p.n, .string p.name, .slice ka p.kids.length cap]) p) := by
    obtain ⟨x1, x2, x3, x4, x5⟩ := PV.out
    exact ⟨x1, x2, x3, x4, x5.to K2 (fun b hb => ⟨hb, fun h => h⟩) (fun b hb => Nat.lt_of_lt_of_le hb K2.size)⟩
  clear c0 c1 c2 c3 c4 K2
  go_wp2_with fail
  refine (rprint_any p _ w2 PV2.out hsz).mono ?_
  rintro e w3 ⟨rfl, K3⟩
  have KK3 := Lib.hid (KK2.out.trans K3)
  clear d0 d1 d2 d3 d4 K3
  have ei : ((printF p).2 == (printF p).2) = true := by simp
  go_wp2_with fail
  go_ret
  exact ⟨rfl, KK3.out⟩
end Go.Proofs.YtdnglicgmlldlaaDoor

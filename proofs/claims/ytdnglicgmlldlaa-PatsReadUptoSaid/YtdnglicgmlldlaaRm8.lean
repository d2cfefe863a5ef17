/- The signs of a text: the reference's Signs. The reader of patterns: the closure that catches what a reader throws. The document's reader: its state; stop, take. The document's reader: take. -/
import Derived.Test.YtdnglicgmlldlaaRm7
import Derived.Recover
import Derived.RegionTactic
import Derived.BigRegion
namespace Go.Proofs.Ytdnglicgmlldlaa
open Go.RowKit

theorem Try.infoSg : (Try.prog.info? 58).map (fun i => (i.zero, i.size, i.bytes)) = some (some (.agg #[.int .i64 0, .string ⟨#[]⟩, .int .i64 0, .int .i64 0]), 4, 40) := by kernel_rfl
def TokW (w : World) (B : Nat) (v : Value) (l : List Tok) : Prop := Win w B 58 4 v l.length (toksC l)
theorem app_tok {ops : Array Oper} {rest : List Oper} {o : Oper} {a : Act} {w : World} {Q : Exit → Act → World → Prop} (hgd : o.guard = none) (sl x : Operand)
    (ho : o.op = .call { callee := .builtin .append, args := #[sl, x], argTypes := #[51, 51] })
    (B : Nat) (v : Value) (l : List Tok) (t : Tok) (g : Nat) (hs : a.eval sl = v) (hw : TokW w B v l) (hx : a.eval x = .slice (some ⟨g, 0, none⟩) 1 1)
    (hg : w.heap[g]? = some (.cells #[.int .i64 t.kind, .string t.text, .int .i64 t.at_, .int .i64 t.stop] 58 (0, 0))) (hl : l.length ≤ 1000000) (hB : B ≤ w.heap.size)
    (h : ∀ a' c' w', TokW w' B (.slice a' (l.length + 1) c') (l ++ [t]) → Kept (fun b => B ≤ b) w w' → wpList Try.prog ops Q rest (a.put o.dst (.slice a' (l.length + 1) c')) w') :
    wpList Try.prog ops Q (o :: rest) a w := by
  obtain ⟨i0, hi0, hz0, hz1, hz2⟩ := info_parts Try.infoSg
  refine wpList_append_win w hgd sl x _ _ ho B 58 i0 (.agg #[.int .i64 0, .string ⟨#[]⟩, .int .i64 0, .int .i64 0]) 4 40 Try.underlying51 hi0 hz0 hz1 hz2 rfl v l.length (toksC l) hs hw _ 1 (tokC t) hx
    (Src.ofSlice w Try.underlying51 _ _ _ _ rfl (World.news_of_block (fr := (0, 0)) (cs := #[.int .i64 t.kind, .string t.text, .int .i64 t.at_, .int .i64 t.stop]) hg) (by intro u hu; simp [tokC] at hu; rcases hu with rfl | rfl | rfl | rfl <;> rfl)) (by unfold maxLen; omega) (by omega) hB ?_
  intro a' c' w' h1 h2 h3
  refine h a' c' w' ?_ ((Kept.refl _ w).grown h2 fun b hb => .inl (hw.lt b hb).1)
  unfold TokW
  rw [toksC_append, toksC_one, List.length_append]; exact h1
theorem w_key (c : UInt8) : (isW c = false ∧ ∃ x65 x90 x48 x57 : Bool, decide ((65 : Int) ≤ (c.toNat : Int)) = x65 ∧ decide ((c.toNat : Int) ≤ 90) = x90 ∧ decide ((48 : Int) ≤ (c.toNat : Int)) = x48 ∧ decide ((c.toNat : Int) ≤ 57) = x57 ∧
      ((x65 = false ∧ x90 = true ∧ x48 = false ∧ x57 = true) ∨ (x65 = false ∧ x90 = true ∧ x48 = true ∧ x57 = false) ∨ (x65 = true ∧ x90 = false ∧ x48 = true ∧ x57 = false))) ∨
    (isW c = true ∧ ∃ x65 x90 x48 x57 : Bool, decide ((65 : Int) ≤ (c.toNat : Int)) = x65 ∧ decide ((c.toNat : Int) ≤ 90) = x90 ∧ decide ((48 : Int) ≤ (c.toNat : Int)) = x48 ∧ decide ((c.toNat : Int) ≤ 57) = x57 ∧
      ((x65 = false ∧ x90 = true ∧ x48 = true ∧ x57 = true) ∨ (x65 = true ∧ x90 = true ∧ x48 = true ∧ x57 = false))) := by
  have hb := c.toNat_lt
  rw [isW_eq]
  rcases (show c.toNat < 48 ∨ (48 ≤ c.toNat ∧ c.toNat ≤ 57) ∨ (57 < c.toNat ∧ c.toNat < 65) ∨ (65 ≤ c.toNat ∧ c.toNat ≤ 90) ∨ 90 < c.toNat by omega) with h | h | h | h | h
  · exact .inl ⟨by simp; omega, _, _, _, _, rfl, rfl, rfl, rfl, .inl ⟨decide_eq_false (by omega), decide_eq_true (by omega), decide_eq_false (by omega), decide_eq_true (by omega)⟩⟩
  · exact .inr ⟨by simp; omega, _, _, _, _, rfl, rfl, rfl, rfl, .inl ⟨decide_eq_false (by omega), decide_eq_true (by omega), decide_eq_true (by omega), decide_eq_true (by omega)⟩⟩
  · exact .inl ⟨by simp; omega, _, _, _, _, rfl, rfl, rfl, rfl, .inr (.inl ⟨decide_eq_false (by omega), decide_eq_true (by omega), decide_eq_true (by omega), decide_eq_false (by omega)⟩)⟩
  · exact .inr ⟨by simp; omega, _, _, _, _, rfl, rfl, rfl, rfl, .inr ⟨decide_eq_true (by omega), decide_eq_true (by omega), decide_eq_true (by omega), decide_eq_false (by omega)⟩⟩
  · exact .inl ⟨by simp; omega, _, _, _, _, rfl, rfl, rfl, rfl, .inr (.inr ⟨decide_eq_true (by omega), decide_eq_false (by omega), decide_eq_true (by omega), decide_eq_false (by omega)⟩)⟩
theorem tok_text {s : ByteArray} {k e : Nat} {b : ByteArray} {x : Option (List UInt8 × Nat)} (h : textR s k [] (k + 1) x = .ok ((b, k), e)) : ∃ y n, x = some (y, n) ∧ b = ⟨y.toArray⟩ ∧ e = k + 1 + n := by
  cases x with
  | none => cases h
  | some z =>
    obtain ⟨y, n⟩ := z
    simp only [textR, List.nil_append, Except.ok.injEq, Prod.mk.injEq, and_true] at h
    exact ⟨y, n, rfl, h.1.symm, h.2.symm⟩
theorem tok_broken {s : ByteArray} {k : Nat} {er : Er} {x : Option (List UInt8 × Nat)} (h : textR s k [] (k + 1) x = .error er) : x = none := by
  cases x with
  | none => rfl
  | some z => obtain ⟨y, n⟩ := z; cases h
def SignsPost (s : ByteArray) (w : World) (e : Ending) (w' : World) : Prop := ∃ v x, e = .returned (.tuple #[v, x]) ∧ TokW w' w.heap.size v (toks s 0) ∧ Kept Nix w w'

set_option maxRecDepth 100000 in
set_option maxHeartbeats 4000000 in
theorem signs_any (s : ByteArray) (w : World) (hs6 : s.size ≤ 65536) : Calls Try.prog 22 #[.string s] w (SignsPost s w) := by
  obtain ⟨i0, hi0, hz0, hz1, hz2⟩ := info_parts Try.infoB
  go_enter Try.func22, Try.ntmps22
  go_wp2_with fail
  go_loopg [4, 5] s.size (fun f v at_ wr => ∃ (l : List Tok) (k : Nat) (a : Option Addr) (c : Nat), k ≤ s.size ∧ f = s.size - k ∧ at_ = .int .i64 k ∧ v = .slice a l.length c ∧ l.length ≤ k ∧ TokW wr w.heap.size v l ∧ Hid (toks s 0 = l ++ toks s k) ∧ Kept Nix w wr)
  case atStart => exact ⟨[], 0, none, 0, Nat.zero_le _, rfl, rfl, rfl, Nat.le_refl _, Win.nil _ _ _ _, by simp [Hid], Kept.refl _ _⟩
  case round =>
    obtain ⟨l, k, a, c, hk, rfl, rfl, rfl, hlk, hW, hT, hK⟩ := hrel
    obtain ⟨wo, rfl⟩ : ∃ wo : World, wo = wr := ⟨_, rfl⟩
    have WW := Lib.hid hW; have KK := Lib.hid hK
    have hsz := hK.size
    clear hW hK
    by_cases hlt : k < s.size
    · have g1 : decide ((k : Int) < (s.size : Int)) = true := decide_eq_true (by omega)
      have bi : (k : Int) < (s.size : Int) := by omega
      have hcb : s[k].toNat < 256 := s[k].toNat_lt
      by_cases h32 : s[k].toNat = 32
      · have b1 : ((s[k].toNat : Int) == 32) = true := by simp; omega
        have hT2 : Hid (toks s 0 = l ++ toks s (k + 1)) := by unfold Hid; rw [hT.out, toks_blank hlt h32]
        clear h32 hT
        go_wp2_with fail
        go_roundg (s.size - (k + 1))
        case measure => omega
        case rel => exact ⟨l, k + 1, a, c, by omega, rfl, by go_num, rfl, by omega, WW.out, hT2, KK.out⟩
      have b1 : ((s[k].toNat : Int) == 32) = false := by simp; omega
      have hne := toks_tok hlt h32
      have HNE := Lib.hid hne
      clear hne
      by_cases h39 : s[k].toNat = 39
      · have b2 : ((s[k].toNat : Int) == 39) = true := by simp; omega
        have ek : (k : Int) + 1 = ((k + 1 : Nat) : Int) := by omega
        have EK := Lib.hid ek
        have e39 : peek s k = 39 := by rw [peek_at hlt]; omega
        have E39 := Lib.hid e39
        have hvlt := WW.out.lt
        have HVL := Lib.hid hvlt
        clear h39 h32 ek e39 hvlt
        go_wp2_with fail
        go_loopg [5, 8] (s.size - (k + 1)) (fun f at_ bv w2 => ∃ (m : Nat) (bs : List UInt8) (ab : Option Addr) (cb : Nat), k + 1 ≤ m ∧ m ≤ s.size ∧ f = s.size - m ∧ bs.length ≤ m ∧ at_ = .int .i64 m ∧ bv = .slice ab bs.length cb ∧ Win w2 wo.heap.size 5 1 bv bs.length (byteCs bs) ∧
          Hid (textR s k [] (k + 1) (txtL (s.data.toList.drop (k + 1))) = textR s k bs m (txtL (s.data.toList.drop m))) ∧ Kept Nix wo w2)
        case atStart => exact ⟨k + 1, [], none, 0, Nat.le_refl _, hlt, rfl, by simp, int_eq EK.out, rfl, Win.nil _ _ _ _, rfl, Kept.refl _ _⟩
        case round =>
          obtain ⟨m, bs, ab, cb, hm1, hm2, rfl, hbl, rfl, rfl, hB, htx, hK2⟩ := hrel
          obtain ⟨w2, rfl⟩ : ∃ w2 : World, w2 = wr := ⟨_, rfl⟩
          have BB := Lib.hid hB; have K2 := Lib.hid hK2
          have hsz2 := hK2.size
          have TW : Hid (TokW w2 w.heap.size (.slice a l.length c) l) := WW.out.kept hK2 (fun _ _ h => h)
          clear hB hK2
          by_cases hml : m < s.size
          · have c1 : ((m : Int) == (s.size : Int)) = false := by simp; omega
            have cbi : (m : Int) < (s.size : Int) := by omega
            by_cases hc : s[m].toNat = 39
            · have c2 : ((s[m].toNat : Int) == 39) = true := by simp; omega
              obtain ⟨m1, em1⟩ : ∃ m1 : Nat, m1 = m + 1 := ⟨_, rfl⟩
              have em1i : (m : Int) + 1 = (m1 : Int) := by omega
              have hma : m1 ≤ m + 1 := by omega
              have hmb : m + 1 ≤ m1 := by omega
              by_cases hd : ∃ h : m + 1 < s.size, s[m + 1].toNat = 39
              · obtain ⟨h2, h3⟩ := hd
                have hl1 : m1 < s.size := by omega
                have h3' : s[m1].toNat = 39 := by simp only [em1]; exact h3
                have g3 : ((m1 : Int) == (s.size : Int)) = false := by simp; omega
                have g4 : ((s[m1].toNat : Int) != 39) = false := by simp; omega
                have bi2 : (m1 : Int) < (s.size : Int) := by omega
                have e41 : s[m1] = s[m] := UInt8.toNat_inj.1 (by rw [h3', hc])
                have htx2 : Hid (textR s k [] (k + 1) (txtL (s.data.toList.drop (k + 1))) = textR s k (bs ++ [s[m1]]) (m1 + 1) (txtL (s.data.toList.drop (m1 + 1)))) := by
                  unfold Hid; rw [htx.out, txt_twice h2 hc h3, e41, show m1 + 1 = m + 2 by omega]
                clear hc htx h3 h3' em1 h2 e41
                go_wp2_with (at_builtin; go_loud (refine wpList_append_win _ rfl (.tmp 65) (.tmp 69) 64 64 rfl wo.heap.size 5 i0 (.int .u8 0) 1 1 Try.underlying64 hi0 hz0 hz1 hz2 rfl (.slice ab bs.length cb) bs.length (byteCs bs) rfl (BB.out.alloc _) _ 1 [.int .u8 (s[m1].toNat : Int)] rfl (Src.ofSlice _ Try.underlying64 _ _ _ _ rfl (World.news_of_block (fr := (0, 0)) (cs := #[.int .u8 (s[m1].toNat : Int)]) (heap_new2 (by simp))) (by intro u hu; simp at hu; subst hu; rfl)) (by unfold maxLen; omega) (by omega) (by simp; omega) ?_); intro a3 c3 w3 hW3 hg3 ho3)
                have hbs : (bs ++ [s[m1]]).length = bs.length + 1 := by simp
                have hcs : byteCs bs ++ [.int .u8 (s[m1].toNat : Int)] = byteCs (bs ++ [s[m1]]) := by simp [byteCs]
                rw [hcs] at hW3
                have K3 : Hid (Kept Nix wo w3) := (K2.out.alloc _).grown hg3 fun x hx => .inr (BB.out.lt x hx).1
                have W3 := Lib.hid hW3; have HBS := Lib.hid hbs
                clear hW3 hg3 ho3 hbs hcs
                go_wp2_with fail
                go_roundg (s.size - (m1 + 1))
                case measure => omega
                case rel => exact ⟨m1 + 1, bs ++ [s[m1]], a3, c3, by omega, by omega, rfl, by rw [HBS.out]; omega, by go_num, by rw [HBS.out], by rw [HBS.out]; exact W3.out, htx2, K3.out⟩
              · have htx2 : Hid (textR s k [] (k + 1) (txtL (s.data.toList.drop (k + 1))) = .ok ((⟨bs.toArray⟩, k), m1)) := by
                  unfold Hid; rw [htx.out, txt_stop hml hc (fun h e => hd ⟨h, e⟩), em1]
                have hT2 : Hid (toks s 0 = (l ++ [⟨302, ⟨bs.toArray⟩, k, m1⟩]) ++ toks s m1) := by
                  obtain ⟨y, n, hx, hb, he⟩ := tok_text htx2.out
                  have et : tokAt s k = ⟨302, ⟨bs.toArray⟩, k, m1⟩ := by unfold tokAt; rw [if_pos E39.out, hx]; dsimp only; rw [hb, he]
                  unfold Hid; rw [hT.out, HNE.out, et, if_neg (by dsimp only; omega), List.append_assoc]; rfl
                have hcv : (convert 64 9 (.slice ab bs.length cb)).run Try.prog w2 = .ok (.string ⟨bs.toArray⟩) w2 := Win.conv BB.out
                by_cases h2 : m + 1 < s.size
                · have hl1 : m1 < s.size := by omega
                  have h3' : s[m1].toNat ≠ 39 := by simp only [em1]; exact fun e => hd ⟨h2, e⟩
                  have g3 : ((m1 : Int) == (s.size : Int)) = false := by simp; omega
                  have g4 : ((s[m1].toNat : Int) != 39) = true := by simp; omega
                  have bi2 : (m1 : Int) < (s.size : Int) := by omega
                  clear hc htx hd h3' em1 h2 hT HNE htx2
                  go_wp2_with (at_builtin; go_loud (refine app_tok rfl (.tmp 73) (.tmp 79) rfl w.heap.size _ l ⟨302, ⟨bs.toArray⟩, k, m1⟩ w2.heap.size rfl (Win.alloc TW.out _) rfl (heap_new2 rfl) (by omega) (by simp; omega) ?_); intro a3 c3 w3 W3 K3)
                  have W3' := Lib.hid W3; have K3' := Lib.hid (((KK.out.trans K2.out).alloc _).step K3 (fun y hy => .inr hy))
                  clear W3 K3
                  go_wp2_with fail
                  go_roundg (s.size - m1)
                  case measure => omega
                  case rel => exact ⟨_, m1, a3, c3, by omega, rfl, by go_num, by simp, by simp; omega, W3'.out, hT2, K3'.out⟩
                · have g3 : ((m1 : Int) == (s.size : Int)) = true := by simp; omega
                  clear hc htx hd em1 h2 hT HNE htx2
                  go_wp2_with (at_builtin; go_loud (refine app_tok rfl (.tmp 73) (.tmp 79) rfl w.heap.size _ l ⟨302, ⟨bs.toArray⟩, k, m1⟩ w2.heap.size rfl (Win.alloc TW.out _) rfl (heap_new2 rfl) (by omega) (by simp; omega) ?_); intro a3 c3 w3 W3 K3)
                  have W3' := Lib.hid W3; have K3' := Lib.hid (((KK.out.trans K2.out).alloc _).step K3 (fun y hy => .inr hy))
                  clear W3 K3
                  go_wp2_with fail
                  go_roundg (s.size - m1)
                  case measure => omega
                  case rel => exact ⟨_, m1, a3, c3, by omega, rfl, by go_num, by simp, by simp; omega, W3'.out, hT2, K3'.out⟩
            · have c2 : ((s[m].toNat : Int) == 39) = false := by simp; omega
              obtain ⟨m1, em1⟩ : ∃ m1 : Nat, m1 = m := ⟨_, rfl⟩
              have htx2 : Hid (textR s k [] (k + 1) (txtL (s.data.toList.drop (k + 1))) = textR s k (bs ++ [s[m]]) (m + 1) (txtL (s.data.toList.drop (m + 1)))) := htx.out.trans (txt_byte hml hc)
              clear hc htx em1 m1
              go_wp2_with (at_builtin; go_loud (refine wpList_append_win _ rfl (.tmp 65) (.tmp 69) 64 64 rfl wo.heap.size 5 i0 (.int .u8 0) 1 1 Try.underlying64 hi0 hz0 hz1 hz2 rfl (.slice ab bs.length cb) bs.length (byteCs bs) rfl (BB.out.alloc _) _ 1 [.int .u8 (s[m].toNat : Int)] rfl (Src.ofSlice _ Try.underlying64 _ _ _ _ rfl (World.news_of_block (fr := (0, 0)) (cs := #[.int .u8 (s[m].toNat : Int)]) (heap_new2 (by simp))) (by intro u hu; simp at hu; subst hu; rfl)) (by unfold maxLen; omega) (by omega) (by simp; omega) ?_); intro a3 c3 w3 hW3 hg3 ho3)
              have hbs : (bs ++ [s[m]]).length = bs.length + 1 := by simp
              have hcs : byteCs bs ++ [.int .u8 (s[m].toNat : Int)] = byteCs (bs ++ [s[m]]) := by simp [byteCs]
              rw [hcs] at hW3
              have K3 : Hid (Kept Nix wo w3) := (K2.out.alloc _).grown hg3 fun x hx => .inr (BB.out.lt x hx).1
              have W3 := Lib.hid hW3; have HBS := Lib.hid hbs
              clear hW3 hg3 ho3 hbs hcs
              go_wp2_with fail
              go_roundg (s.size - (m + 1))
              case measure => omega
              case rel => exact ⟨m + 1, bs ++ [s[m]], a3, c3, by omega, by omega, rfl, by rw [HBS.out]; omega, by go_num, by rw [HBS.out], by rw [HBS.out]; exact W3.out, htx2, K3.out⟩
          · have c1 : ((m : Int) == (s.size : Int)) = true := by simp; omega
            have htx2 : textR s k [] (k + 1) (txtL (s.data.toList.drop (k + 1))) = .error (2, s.size) := by rw [htx.out, txt_end (by omega)]
            have hT2 : Hid (toks s 0 = l ++ [⟨301, E0, k, m⟩]) := by
              have et : tokAt s k = ⟨301, E0, k, m⟩ := by unfold tokAt; rw [if_pos E39.out, tok_broken htx2]; dsimp only; rw [show m = s.size by omega]
              unfold Hid; rw [hT.out, HNE.out, et, if_pos rfl]
            clear htx htx2 hT HNE
            go_wp2_with (at_builtin; go_loud (refine app_tok rfl (.tmp 31) (.tmp 35) rfl w.heap.size _ l ⟨301, E0, k, m⟩ w2.heap.size rfl (Win.alloc TW.out _) rfl (heap_new2 rfl) (by omega) (by simp; omega) ?_); intro a3 c3 w3 W3 K3)
            have fin : Hid (∀ x, SignsPost s w (.returned (.tuple #[.slice a3 (l.length + 1) c3, x])) w3) := fun x => ⟨_, _, rfl, by rw [hT2.out]; exact W3, ((KK.out.trans K2.out).alloc _).step K3 (fun y hy => .inr hy)⟩
            clear W3 K3
            go_wp2_with fail
            go_ret2
            exact fin.out _
      have b2 : ((s[k].toNat : Int) == 39) = false := by simp; omega
      by_cases hAZ : 65 ≤ s[k].toNat ∧ s[k].toNat ≤ 90
      · have b3 : decide ((65 : Int) ≤ (s[k].toNat : Int)) = true := decide_eq_true (by omega)
        have b4 : decide ((s[k].toNat : Int) ≤ 90) = true := decide_eq_true (by omega)
        have et : tokAt s k = ⟨303, s.extract k (runEnd isW s k), k, runEnd isW s k⟩ := by
          unfold tokAt; rw [peek_at hlt]; rw [if_neg (by omega), if_pos (by omega)]
        have hT2 : Hid (toks s 0 = (l ++ [⟨303, s.extract k (runEnd isW s k), k, runEnd isW s k⟩]) ++ toks s (runEnd isW s k)) := by
          unfold Hid; rw [hT.out, HNE.out, et, if_neg (by dsimp only; omega), List.append_assoc]; rfl
        have hge : k < runEnd isW s k := by
          have hw : isW s[k] = true := by rw [isW_eq]; simp; omega
          rw [run_yes hlt hw]; have := run_ge isW s (k + 1); omega
        have HGE := Lib.hid hge
        clear et hT HNE hge
        go_wp2_with fail
        go_loop [5] (fun i => ∃ m : Nat, k ≤ m ∧ m ≤ s.size ∧ i = .int .i64 m ∧ Hid (runEnd isW s m = runEnd isW s k)) (fun i => s.size - (intOf i).toNat)
        case atStart => exact ⟨k, Nat.le_refl _, by omega, rfl, rfl⟩
        case round =>
          obtain ⟨m, hm1, hm2, rfl, hrun⟩ := hrel
          have leave : ∀ _ : runEnd isW s k = m, True := fun _ => trivial
          clear leave
          by_cases hml : m < s.size
          · have c1 : decide ((m : Int) < (s.size : Int)) = true := decide_eq_true (by omega)
            have cbi : (m : Int) < (s.size : Int) := by omega
            have hmb : s[m].toNat < 256 := s[m].toNat_lt
            have key : (isW s[m] = false ∧ ∃ x65 x90 x48 x57 : Bool, decide ((65 : Int) ≤ (s[m].toNat : Int)) = x65 ∧ decide ((s[m].toNat : Int) ≤ 90) = x90 ∧ decide ((48 : Int) ≤ (s[m].toNat : Int)) = x48 ∧ decide ((s[m].toNat : Int) ≤ 57) = x57 ∧
                  ((x65 = false ∧ x90 = true ∧ x48 = false ∧ x57 = true) ∨ (x65 = false ∧ x90 = true ∧ x48 = true ∧ x57 = false) ∨ (x65 = true ∧ x90 = false ∧ x48 = true ∧ x57 = false))) ∨
                (isW s[m] = true ∧ ∃ x65 x90 x48 x57 : Bool, decide ((65 : Int) ≤ (s[m].toNat : Int)) = x65 ∧ decide ((s[m].toNat : Int) ≤ 90) = x90 ∧ decide ((48 : Int) ≤ (s[m].toNat : Int)) = x48 ∧ decide ((s[m].toNat : Int) ≤ 57) = x57 ∧
                  ((x65 = false ∧ x90 = true ∧ x48 = true ∧ x57 = true) ∨ (x65 = true ∧ x90 = true ∧ x48 = true ∧ x57 = false))) := w_key s[m]
            rcases key with ⟨hw, x65, x90, x48, x57, h65, h90, h48, h57, hx⟩ | ⟨hw, x65, x90, x48, x57, h65, h90, h48, h57, hx⟩
            · have em : Hid (runEnd isW s k = m) := hrun.out.symm.trans (run_no hml hw)
              clear hw hrun b1 b2 b3 b4 hAZ h39 h32 hcb hmb
              rcases hx with ⟨rfl, rfl, rfl, rfl⟩ | ⟨rfl, rfl, rfl, rfl⟩ | ⟨rfl, rfl, rfl, rfl⟩
              all_goals
                have hT3 : Hid (toks s 0 = (l ++ [⟨303, s.extract k m, k, m⟩]) ++ toks s m) := by have h := hT2.out; rw [em.out] at h; exact h
                have hkm : k < m := by have h := HGE.out; rw [em.out] at h; exact h
                clear em hT2 HGE
                go_wp2_with (at_builtin; go_loud (refine app_tok rfl (.tmp 118) (.tmp 126) rfl w.heap.size _ l ⟨303, s.extract k m, k, m⟩ wo.heap.size rfl (WW.out.alloc _) rfl (heap_new2 rfl) (by omega) (by simp; omega) ?_); intro a3 c3 w3 W3 K3)
                have W3' := Lib.hid W3; have K3' := Lib.hid ((KK.out.alloc _).step K3 (fun y hy => .inr hy))
                clear W3 K3
                go_wp2_with fail
                go_roundg (s.size - m)
                case measure => omega
                case rel => exact ⟨_, m, a3, c3, by omega, rfl, by go_num, by simp, by simp; omega, W3'.out, hT3, K3'.out⟩
            · have hr2 : Hid (runEnd isW s (m + 1) = runEnd isW s k) := (run_yes hml hw).symm.trans hrun.out
              clear hw hrun b1 b2 b3 b4 hAZ h39 h32 hcb hmb
              rcases hx with ⟨rfl, rfl, rfl, rfl⟩ | ⟨rfl, rfl, rfl, rfl⟩
              all_goals
                go_wp2_with fail
                go_round
                case rel => exact ⟨m + 1, by omega, by omega, by go_num, hr2⟩
                case measure => simp [intOf]; omega
          · have c1 : decide ((m : Int) < (s.size : Int)) = false := decide_eq_false (by omega)
            have em : Hid (runEnd isW s k = m) := hrun.out.symm.trans (run_end (by omega))
            have hT3 : Hid (toks s 0 = (l ++ [⟨303, s.extract k m, k, m⟩]) ++ toks s m) := by have h := hT2.out; rw [em.out] at h; exact h
            have hkm : k < m := by have h := HGE.out; rw [em.out] at h; exact h
            clear em hT2 HGE
            go_wp2_with (at_builtin; go_loud (refine app_tok rfl (.tmp 118) (.tmp 126) rfl w.heap.size _ l ⟨303, s.extract k m, k, m⟩ wo.heap.size rfl (WW.out.alloc _) rfl (heap_new2 rfl) (by omega) (by simp; omega) ?_); intro a3 c3 w3 W3 K3)
            have W3' := Lib.hid W3; have K3' := Lib.hid ((KK.out.alloc _).step K3 (fun y hy => .inr hy))
            clear W3 K3
            go_wp2_with fail
            go_roundg (s.size - m)
            case measure => omega
            case rel => exact ⟨_, m, a3, c3, by omega, rfl, by go_num, by simp, by simp; omega, W3'.out, hT3, K3'.out⟩
      by_cases h09 : 48 ≤ s[k].toNat ∧ s[k].toNat ≤ 57
      · have b3 : decide ((65 : Int) ≤ (s[k].toNat : Int)) = false := decide_eq_false (by omega)
        have b5 : decide ((48 : Int) ≤ (s[k].toNat : Int)) = true := decide_eq_true (by omega)
        have b6 : decide ((s[k].toNat : Int) ≤ 57) = true := decide_eq_true (by omega)
        have et : tokAt s k = ⟨304, s.extract k (runEnd digitN s k), k, runEnd digitN s k⟩ := by
          unfold tokAt; rw [peek_at hlt]; rw [if_neg (by omega), if_neg (by omega), if_pos (by omega)]
        have hT2 : Hid (toks s 0 = (l ++ [⟨304, s.extract k (runEnd digitN s k), k, runEnd digitN s k⟩]) ++ toks s (runEnd digitN s k)) := by
          unfold Hid; rw [hT.out, HNE.out, et, if_neg (by dsimp only; omega), List.append_assoc]; rfl
        have hge : k < runEnd digitN s k := by
          have hw : digitN s[k] = true := by rw [digit_eq]; simp; omega
          rw [run_yes hlt hw]; have := run_ge digitN s (k + 1); omega
        have HGE := Lib.hid hge
        clear et hT HNE hge
        go_wp2_with fail
        go_loop [5] (fun i => ∃ m : Nat, k ≤ m ∧ m ≤ s.size ∧ i = .int .i64 m ∧ Hid (runEnd digitN s m = runEnd digitN s k)) (fun i => s.size - (intOf i).toNat)
        case atStart => exact ⟨k, Nat.le_refl _, by omega, rfl, rfl⟩
        case round =>
          obtain ⟨m, hm1, hm2, rfl, hrun⟩ := hrel
          have leave : ∀ _ : runEnd digitN s k = m, True := fun _ => trivial
          clear leave
          by_cases hml : m < s.size
          · have c1 : decide ((m : Int) < (s.size : Int)) = true := decide_eq_true (by omega)
            have cbi : (m : Int) < (s.size : Int) := by omega
            have hmb : s[m].toNat < 256 := s[m].toNat_lt
            rcases (show s[m].toNat < 48 ∨ (48 ≤ s[m].toNat ∧ s[m].toNat ≤ 57) ∨ 57 < s[m].toNat by omega) with h | h | h
            · have em : Hid (runEnd digitN s k = m) := hrun.out.symm.trans (run_no hml (by rw [digit_eq]; simp; omega))
              have h48 : decide ((48 : Int) ≤ (s[m].toNat : Int)) = false := decide_eq_false (by omega)
              clear h hrun b1 b2 b3 b5 b6 hAZ h09 h39 h32 hcb hmb
              have hT3 : Hid (toks s 0 = (l ++ [⟨304, s.extract k m, k, m⟩]) ++ toks s m) := by have h := hT2.out; rw [em.out] at h; exact h
              have hkm : k < m := by have h := HGE.out; rw [em.out] at h; exact h
              clear em hT2 HGE
              go_wp2_with (at_builtin; go_loud (refine app_tok rfl (.tmp 153) (.tmp 161) rfl w.heap.size _ l ⟨304, s.extract k m, k, m⟩ wo.heap.size rfl (WW.out.alloc _) rfl (heap_new2 rfl) (by omega) (by simp; omega) ?_); intro a3 c3 w3 W3 K3)
              have W3' := Lib.hid W3; have K3' := Lib.hid ((KK.out.alloc _).step K3 (fun y hy => .inr hy))
              clear W3 K3
              go_wp2_with fail
              go_roundg (s.size - m)
              case measure => omega
              case rel => exact ⟨_, m, a3, c3, by omega, rfl, by go_num, by simp, by simp; omega, W3'.out, hT3, K3'.out⟩
            · have hr2 : Hid (runEnd digitN s (m + 1) = runEnd digitN s k) := (run_yes hml (by rw [digit_eq]; simp; omega)).symm.trans hrun.out
              have h48 : decide ((48 : Int) ≤ (s[m].toNat : Int)) = true := decide_eq_true (by omega)
              have h57 : decide ((s[m].toNat : Int) ≤ 57) = true := decide_eq_true (by omega)
              clear h hrun b1 b2 b3 b5 b6 hAZ h09 h39 h32 hcb hmb
              go_wp2_with fail
              go_round
              case rel => exact ⟨m + 1, by omega, by omega, by go_num, hr2⟩
              case measure => simp [intOf]; omega
            · have em : Hid (runEnd digitN s k = m) := hrun.out.symm.trans (run_no hml (by rw [digit_eq]; simp; omega))
              have h48 : decide ((48 : Int) ≤ (s[m].toNat : Int)) = true := decide_eq_true (by omega)
              have h57 : decide ((s[m].toNat : Int) ≤ 57) = false := decide_eq_false (by omega)
              clear h hrun b1 b2 b3 b5 b6 hAZ h09 h39 h32 hcb hmb
              have hT3 : Hid (toks s 0 = (l ++ [⟨304, s.extract k m, k, m⟩]) ++ toks s m) := by have h := hT2.out; rw [em.out] at h; exact h
              have hkm : k < m := by have h := HGE.out; rw [em.out] at h; exact h
              clear em hT2 HGE
              go_wp2_with (at_builtin; go_loud (refine app_tok rfl (.tmp 153) (.tmp 161) rfl w.heap.size _ l ⟨304, s.extract k m, k, m⟩ wo.heap.size rfl (WW.out.alloc _) rfl (heap_new2 rfl) (by omega) (by simp; omega) ?_); intro a3 c3 w3 W3 K3)
              have W3' := Lib.hid W3; have K3' := Lib.hid ((KK.out.alloc _).step K3 (fun y hy => .inr hy))
              clear W3 K3
              go_wp2_with fail
              go_roundg (s.size - m)
              case measure => omega
              case rel => exact ⟨_, m, a3, c3, by omega, rfl, by go_num, by simp, by simp; omega, W3'.out, hT3, K3'.out⟩
          · have c1 : decide ((m : Int) < (s.size : Int)) = false := decide_eq_false (by omega)
            have em : Hid (runEnd digitN s k = m) := hrun.out.symm.trans (run_end (by omega))
            have hT3 : Hid (toks s 0 = (l ++ [⟨304, s.extract k m, k, m⟩]) ++ toks s m) := by have h := hT2.out; rw [em.out] at h; exact h
            have hkm : k < m := by have h := HGE.out; rw [em.out] at h; exact h
            clear em hT2 HGE
            go_wp2_with (at_builtin; go_loud (refine app_tok rfl (.tmp 153) (.tmp 161) rfl w.heap.size _ l ⟨304, s.extract k m, k, m⟩ wo.heap.size rfl (WW.out.alloc _) rfl (heap_new2 rfl) (by omega) (by simp; omega) ?_); intro a3 c3 w3 W3 K3)
            have W3' := Lib.hid W3; have K3' := Lib.hid ((KK.out.alloc _).step K3 (fun y hy => .inr hy))
            clear W3 K3
            go_wp2_with fail
            go_roundg (s.size - m)
            case measure => omega
            case rel => exact ⟨_, m, a3, c3, by omega, rfl, by go_num, by simp, by simp; omega, W3'.out, hT3, K3'.out⟩
      have key : (∃ x65 x90 x48 x57 : Bool, decide ((65 : Int) ≤ (s[k].toNat : Int)) = x65 ∧ decide ((s[k].toNat : Int) ≤ 90) = x90 ∧ decide ((48 : Int) ≤ (s[k].toNat : Int)) = x48 ∧ decide ((s[k].toNat : Int) ≤ 57) = x57 ∧
            ((x65 = false ∧ x90 = true ∧ x48 = false ∧ x57 = true) ∨ (x65 = false ∧ x90 = true ∧ x48 = true ∧ x57 = false) ∨ (x65 = true ∧ x90 = false ∧ x48 = true ∧ x57 = false))) := by
        rcases (show s[k].toNat < 48 ∨ (57 < s[k].toNat ∧ s[k].toNat < 65) ∨ 90 < s[k].toNat by omega) with h | h | h
        · exact ⟨_, _, _, _, rfl, rfl, rfl, rfl, .inl ⟨decide_eq_false (by omega), decide_eq_true (by omega), decide_eq_false (by omega), decide_eq_true (by omega)⟩⟩
        · exact ⟨_, _, _, _, rfl, rfl, rfl, rfl, .inr (.inl ⟨decide_eq_false (by omega), decide_eq_true (by omega), decide_eq_true (by omega), decide_eq_false (by omega)⟩)⟩
        · exact ⟨_, _, _, _, rfl, rfl, rfl, rfl, .inr (.inr ⟨decide_eq_true (by omega), decide_eq_false (by omega), decide_eq_true (by omega), decide_eq_false (by omega)⟩)⟩
      have et : tokAt s k = ⟨(s[k].toNat : Int), s.extract k (k + 1), k, k + 1⟩ := by
        unfold tokAt; rw [peek_at hlt, if_neg (by omega), if_neg (by omega), if_neg (by omega)]
      have hT2 : Hid (toks s 0 = (l ++ [⟨(s[k].toNat : Int), s.extract k (k + 1), k, k + 1⟩]) ++ toks s (k + 1)) := by
        unfold Hid; rw [hT.out, HNE.out, et, if_neg (by dsimp only; omega), List.append_assoc]; rfl
      obtain ⟨x65, x90, x48, x57, h65, h90, h48, h57, hx⟩ := key
      clear hAZ h09 h39 h32 et hT HNE
      rcases hx with ⟨rfl, rfl, rfl, rfl⟩ | ⟨rfl, rfl, rfl, rfl⟩ | ⟨rfl, rfl, rfl, rfl⟩
      all_goals
        go_wp2_with (at_builtin; go_loud (refine app_tok rfl (.tmp 165) (.tmp 175) rfl w.heap.size _ l ⟨(s[k].toNat : Int), s.extract k (k + 1), k, k + 1⟩ wo.heap.size rfl (WW.out.alloc _) rfl (heap_new2 rfl) (by omega) (by simp; omega) ?_); intro a3 c3 w3 W3 K3)
        have W3' := Lib.hid W3; have K3' := Lib.hid ((KK.out.alloc _).step K3 (fun y hy => .inr hy))
        clear W3 K3
        go_wp2_with fail
        go_roundg (s.size - (k + 1))
        case measure => omega
        case rel => exact ⟨_, k + 1, a3, c3, by omega, rfl, by go_num, by simp, by simp; omega, W3'.out, hT2, K3'.out⟩
    · have g1 : decide ((k : Int) < (s.size : Int)) = false := decide_eq_false (by omega)
      have hT2 : Hid (toks s 0 = l ++ [endTok s]) := by unfold Hid; rw [hT.out, show k = s.size by omega, toks_end]
      clear hT
      go_wp2_with (at_builtin; go_loud (refine app_tok rfl (.tmp 177) (.tmp 183) rfl w.heap.size _ l (endTok s) wo.heap.size rfl (WW.out.alloc _) rfl (heap_new2 rfl) (by omega) (by simp; omega) ?_); intro a3 c3 w3 W3 K3)
      have fin : Hid (SignsPost s w (.returned (.tuple #[.slice a3 (l.length + 1) c3, .int .i64 (-1)])) w3) := ⟨_, _, rfl, by rw [hT2.out]; exact W3, (KK.out.alloc _).step K3 (fun y hy => .inr hy)⟩
      clear W3 K3
      go_wp2_with fail
      go_ret2
      exact fin.out
end Go.Proofs.Ytdnglicgmlldlaa
namespace Go.Proofs.Ytdnglicgmlldlaa
open Go.RowKit

def Two (M : Nat) (c0 c1 : Value) (w : World) : Prop := w.heap[M]? = some (.cells #[c0, c1] 27 (0, 0))
theorem Two.lt {M : Nat} {c0 c1 : Value} {w : World} (h : Two M c0 c1 w) : M < w.heap.size := (Array.getElem?_eq_some_iff.1 h).1
theorem Two.kept {M : Nat} {c0 c1 : Value} {w w' : World} {X : Nat → Prop} (h : Two M c0 c1 w) (hk : Kept X w w') (hx : ¬ X M) : Two M c0 c1 w' := by
  unfold Two; rw [hk.block M h.lt hx]; exact h
theorem Two.cells {M : Nat} {c0 c1 : Value} {w : World} (h : Two M c0 c1 w) : w.cell? ⟨M, 0, none⟩ = some c0 ∧ w.cell? ⟨M, 1, none⟩ = some c1 ∧ ∀ o, w.frozen? ⟨M, o, none⟩ = false := by
  unfold Two at h
  refine ⟨?_, ?_, fun o => by simp [World.frozen?, h]⟩ <;> (rw [cell_of_row w M _ _ _ _ h]; rfl)
def set2 (w : World) (M : Nat) (c0 c1 : Value) : World := (w.setCell ⟨M, 0, none⟩ c0).setCell ⟨M, 1, none⟩ c1
theorem Two.set2 {M : Nat} {z0 z1 : Value} {w : World} (h : Two M z0 z1 w) (c0 c1 : Value) : Two M c0 c1 (set2 w M c0 c1) := by
  unfold Two at h ⊢
  unfold Go.Proofs.Ytdnglicgmlldlaa.set2
  rw [row_setCell (row_setCell h _) _]; rfl
theorem Kept.set2 {X : Nat → Prop} {a w : World} (h : Kept X a w) {M : Nat} (hM : X M ∨ a.heap.size ≤ M) (c0 c1 : Value) : Kept X a (set2 w M c0 c1) :=
  (h.setCell (p := ⟨M, 0, none⟩) hM _).setCell (p := ⟨M, 1, none⟩) hM _

def CatchPost (A1 A2 : Nat) (er : Er) (w : World) (e : Ending) (u : FrameMode) (w' : World) : Prop :=
  e = .returned (.tuple #[]) ∧ u = .panicking [{ v := oopsV er, recovered := true }] ∧ Zero5 A1 w' ∧ Two A2 (.int .i64 er.1) (.int .i64 er.2) w' ∧ Kept (fun k => k = A1 ∨ k = A2) w w'
set_option maxRecDepth 100000 in
set_option maxHeartbeats 1000000 in
theorem catch_oops (A1 A2 : Nat) (hne : A1 ≠ A2) (er : Er) (w : World) (z0 z1 z2 z3 z4 y0 y1 : Value) (hF : Five A1 z0 z1 z2 z3 z4 w) (hT : Two A2 y0 y1 w) :
    CallsD Try.prog 17 #[.pointer (some ⟨A1, 0, none⟩), .pointer (some ⟨A2, 0, none⟩)] (.panicking [{ v := oopsV er, recovered := false }]) w (CatchPost A1 A2 er w) := by
  have hta : ∀ (x : Value) (w : World), (Instr.typeAssert (.iface 43 x) 20 43 true).run Try.prog w = .ok (.tuple #[x, .bool true]) w := fun _ _ => by kernel_rfl
  refine callsD_of_wpS Try.func17 rfl fun c₀ cs hu => ?_
  obtain ⟨c0, c1, c2, c3, c4, cf⟩ := hF.cells
  obtain ⟨d0, d1, df⟩ := hT.cells
  have f0 := cf 0; have f1 := cf 1; have f2 := cf 2; have f3 := cf 3; have f4 := cf 4; clear cf
  have g0 := df 0; have g1 := df 1; clear df
  have HF := Lib.hid hF; have HT := Lib.hid hT
  have hl1 := hF.lt; have hl2 := hT.lt
  obtain ⟨e1, e2⟩ := er
  have HU := Lib.hid hu
  apply wpS_seq
  apply wpS_region
  simp [wpOpsS, go_sem, recoverD, hu, Try.ntmps17, Exit.thenS]
  clear hF hT hu
  unfold oopsV
  dsimp only
  show Code.wpS _ _ _ ⟨#[.pointer (some ⟨A1, 0, none⟩), .pointer (some ⟨A2, 0, none⟩), undef, undef, undef, .iface 43 (.agg #[.int .i64 e1, .int .i64 e2]), undef, undef, undef, undef, undef, undef, undef, undef], []⟩ _ _
  refine wpS_of_wp ?_
  go_wp2_with fail
  go_region
  all_goals go_wp2_with fail
  have F5 : Zero5 A1 (set5 w A1 (.int .i64 0) (.string ⟨#[]⟩) (.int .i64 0) (.string ⟨#[]⟩) (.slice none 0 0)) := HF.out.set5 _ _ _ _ _
  have T5 : Two A2 y0 y1 (set5 w A1 (.int .i64 0) (.string ⟨#[]⟩) (.int .i64 0) (.string ⟨#[]⟩) (.slice none 0 0)) := HT.out.kept ((Kept.refl (· = A1) w).set5 (.inl rfl) _ _ _ _ _) (fun h => hne h.symm)
  have K : Kept (fun k => k = A1 ∨ k = A2) w (set2 (set5 w A1 (.int .i64 0) (.string ⟨#[]⟩) (.int .i64 0) (.string ⟨#[]⟩) (.slice none 0 0)) A2 (.int .i64 e1) (.int .i64 e2)) :=
    ((Kept.refl _ w).set5 (.inl (.inl rfl)) _ _ _ _ _).set2 (.inl (.inr rfl)) _ _
  refine ⟨rfl, _, rfl, .tuple #[], by simp [results, Try.results17, go_sem], rfl, rfl, ?_, ?_, (K.alloc _).drew⟩
  · exact Five.kept (Five.kept F5 ((Kept.refl (· = A2) _).set2 (.inl rfl) (.int .i64 e1) (.int .i64 e2)) hne) ((Kept.refl Nix _).alloc _).drew (fun h => h)
  · exact (T5.set2 (.int .i64 e1) (.int .i64 e2)).kept ((Kept.refl Nix _).alloc _).drew (fun h => h)
set_option maxRecDepth 100000 in
set_option maxHeartbeats 1000000 in
theorem catch_idle (a b : Value) (w : World) :
    CallsD Try.prog 17 #[a, b] .returning w fun e u' w' => e = .returned (.tuple #[]) ∧ u' = .returning ∧ w = w' := by
  refine callsD_of_wpS Try.func17 rfl fun c₀ cs hu => ?_
  have HU := Lib.hid hu
  apply wpS_seq
  apply wpS_region
  simp [wpOpsS, go_sem, recoverD, hu, Try.ntmps17, Exit.thenS]
  clear hu
  show Code.wpS _ _ _ ⟨#[a, b, undef, undef, undef, .nilIface, undef, undef, undef, undef, undef, undef, undef, undef], []⟩ _ _
  refine wpS_of_wp ?_
  go_wp2_with fail
  refine ⟨rfl, .returning, ?_, .tuple #[], by simp [results, Try.results17, go_sem], rfl, rfl, rfl⟩
  have h := HU.out
  cases c₀; simp_all
end Go.Proofs.Ytdnglicgmlldlaa
namespace Go.Proofs.Ytdnglicgmlldlaa
open Go.RowKit

/-- The slice value v reads as the signs l, in block G. -/
def LeftAt (w : World) (G : Nat) (v : Value) (l : List Tok) : Prop :=
  ∃ o c, v = .slice (some ⟨G, o, none⟩) l.length c ∧ l.length ≤ c ∧ ∀ j u, (toksC l)[j]? = some u → w.cell? ⟨G, o + j, none⟩ = some u
theorem LeftAt.kept {w w' : World} {G : Nat} {v : Value} {l : List Tok} {X : Nat → Prop} (h : LeftAt w G v l) (hk : Kept X w w') (hG : G < w.heap.size) (hx : ¬ X G) : LeftAt w' G v l := by
  obtain ⟨o, c, e, h1, h2⟩ := h
  exact ⟨o, c, e, h1, fun j u hu => (hk.cell hG hx).trans (h2 j u hu)⟩
theorem LeftAt.tail {w : World} {G o c : Nat} {x : Tok} {l : List Tok} (h : LeftAt w G (.slice (some ⟨G, o, none⟩) (x :: l).length c) (x :: l)) (hl : 0 < l.length) :
    LeftAt w G (.slice (some ⟨G, o + 4, none⟩) l.length (c - 1)) l ∧ ¬ c = 1 := by
  obtain ⟨o', c', e, h1, h2⟩ := h
  simp only [Value.slice.injEq, Option.some.injEq, Addr.mk.injEq, and_true, true_and] at e
  obtain ⟨rfl, rfl⟩ := e
  rw [List.length_cons] at h1
  refine ⟨⟨o + 4, c - 1, rfl, by omega, fun j u hu => ?_⟩, by omega⟩
  rw [show o + 4 + j = o + (4 + j) by omega]
  refine h2 _ _ ?_
  have e : toksC (x :: l) = tokC x ++ toksC l := by simp [toksC]
  rw [e, List.getElem?_append_right (by simp [tokC])]
  simpa [tokC] using hu
theorem LeftAt.head {w : World} {G o c : Nat} {x : Tok} {l : List Tok} (h : LeftAt w G (.slice (some ⟨G, o, none⟩) (x :: l).length c) (x :: l)) :
    w.cell? ⟨G, o, none⟩ = some (.int .i64 x.kind) ∧ w.cell? ⟨G, o + 1, none⟩ = some (.string x.text) ∧ w.cell? ⟨G, o + 2, none⟩ = some (.int .i64 x.at_) ∧ w.cell? ⟨G, o + 3, none⟩ = some (.int .i64 x.stop) := by
  obtain ⟨o', c', e, h1, h2⟩ := h
  simp only [Value.slice.injEq, Option.some.injEq, Addr.mk.injEq, and_true, true_and] at e
  obtain ⟨rfl, rfl⟩ := e
  have e : toksC (x :: l) = tokC x ++ toksC l := by simp [toksC]
  rw [e] at h2
  exact ⟨h2 0 _ rfl, h2 1 _ rfl, h2 2 _ rfl, h2 3 _ rfl⟩
/-- The walk's five cells at block N, its signs in block G. -/
structure Wk (N G : Nat) (s : ByteArray) (l : List Tok) (d : Nat) (b : Er) (w : World) : Prop where
  blk : ∃ v, w.heap[N]? = some (.cells #[v, .string s, .int .i64 d, .int .i64 b.1, .int .i64 b.2] 56 (0, 0)) ∧ LeftAt w G v l
  ne : G ≠ N
  lt : G < w.heap.size
  nonnil : l ≠ []
  len : l.length ≤ 100000
def FiveW (N : Nat) (v : Value) (s : ByteArray) (d : Nat) (b : Er) (w : World) : Prop := w.heap[N]? = some (.cells #[v, .string s, .int .i64 d, .int .i64 b.1, .int .i64 b.2] 56 (0, 0))
theorem FiveW.cells {N : Nat} {v : Value} {s : ByteArray} {d : Nat} {b : Er} {w : World} (h : FiveW N v s d b w) : w.cell? ⟨N, 0, none⟩ = some v ∧ w.cell? ⟨N, 1, none⟩ = some (.string s) ∧ w.cell? ⟨N, 2, none⟩ = some (.int .i64 d) ∧ w.cell? ⟨N, 3, none⟩ = some (.int .i64 b.1) ∧ w.cell? ⟨N, 4, none⟩ = some (.int .i64 b.2) ∧ ∀ o, w.frozen? ⟨N, o, none⟩ = false := by
  unfold FiveW at h
  refine ⟨?_, ?_, ?_, ?_, ?_, fun o => by simp [World.frozen?, h]⟩ <;> (rw [cell_of_row w N _ _ _ _ h]; rfl)
theorem Wk.ltN {N G : Nat} {s : ByteArray} {l : List Tok} {d : Nat} {b : Er} {w : World} (h : Wk N G s l d b w) : N < w.heap.size := by
  obtain ⟨v, hv, _⟩ := h.blk; exact (Array.getElem?_eq_some_iff.1 hv).1
theorem Wk.kept {N G : Nat} {s : ByteArray} {l : List Tok} {d : Nat} {b : Er} {w w' : World} {X : Nat → Prop} (h : Wk N G s l d b w) (hk : Kept X w w') (hN : ¬ X N) (hG : ¬ X G) : Wk N G s l d b w' := by
  obtain ⟨v, hv, hl⟩ := h.blk
  exact ⟨⟨v, by rw [hk.block N h.ltN hN]; exact hv, hl.kept hk h.lt hG⟩, h.ne, Nat.lt_of_lt_of_le h.lt hk.size, h.nonnil, h.len⟩
theorem Wk.open {N G : Nat} {s : ByteArray} {l : List Tok} {d : Nat} {b : Er} {w : World} (h : Wk N G s l d b w) : ∃ o c x r, l = x :: r ∧ FiveW N (.slice (some ⟨G, o, none⟩) l.length c) s d b w ∧ LeftAt w G (.slice (some ⟨G, o, none⟩) l.length c) l := by
  obtain ⟨v, hv, hl⟩ := h.blk
  obtain ⟨o, c, e, h1, h2⟩ := id hl
  subst e
  cases l with
  | nil => exact absurd rfl h.nonnil
  | cons x r => exact ⟨o, c, x, r, rfl, hv, hl⟩

def stopB (b e : Er) : Er := if b.1 = 0 then e else b
def StopPost (N G : Nat) (s : ByteArray) (l : List Tok) (d : Nat) (b : Er) (w : World) (e : Ending) (w' : World) : Prop := e = .returned (.tuple #[]) ∧ Wk N G s l d b w' ∧ Kept (· = N) w w'
set_option maxRecDepth 100000 in
set_option maxHeartbeats 1000000 in
theorem stop_any (N G : Nat) (s : ByteArray) (l : List Tok) (d : Nat) (b er : Er) (w : World) (h : Wk N G s l d b w) :
    Calls Try.prog 24 #[.pointer (some ⟨N, 0, none⟩), .int .i64 er.1, .int .i64 er.2] w (StopPost N G s l d (stopB b er) w) := by
  obtain ⟨v, hv, hl⟩ := h.blk
  obtain ⟨c0, c1, c2, c3, c4, cf⟩ := FiveW.cells hv
  have f3 := cf 3; have f4 := cf 4
  have HH := Lib.hid h; have HV := Lib.hid hv; have HLL := Lib.hid hl
  clear c0 c1 c2 cf h hv hl
  by_cases hb : b.1 = 0
  · have e1 : stopB b er = er := if_pos hb
    rw [e1]
    have hz : (b.1 == 0) = true := by simpa using hb
    have fin : Hid (StopPost N G s l d er w (.returned (.tuple #[])) ((w.setCell ⟨N, 3, none⟩ (.int .i64 er.1)).setCell ⟨N, 4, none⟩ (.int .i64 er.2))) := by
      have k1 : Kept (· = N) w ((w.setCell ⟨N, 3, none⟩ (.int .i64 er.1)).setCell ⟨N, 4, none⟩ (.int .i64 er.2)) := ((Kept.refl (· = N) w).setCell (p := ⟨N, 3, none⟩) (.inl rfl) _).setCell (p := ⟨N, 4, none⟩) (.inl rfl) _
      exact ⟨rfl, ⟨⟨v, by rw [row_setCell (row_setCell HV.out _) _]; rfl, HLL.out.kept k1 HH.out.lt HH.out.ne⟩, HH.out.ne, Nat.lt_of_lt_of_le HH.out.lt k1.size, HH.out.nonnil, HH.out.len⟩, k1⟩
    clear hb e1
    go_enter Try.func24, Try.ntmps24
    go_wp2_with fail
    first | go_end0 | (refine bodyPost_ret (results_none rfl _ _ _) rfl ?_)
    exact fin.out
  · have e1 : stopB b er = b := if_neg hb
    rw [e1]
    have hz : (b.1 == 0) = false := by simpa using hb
    clear hb e1
    go_enter Try.func24, Try.ntmps24
    go_wp2_with fail
    first | go_end0 | (refine bodyPost_ret (results_none rfl _ _ _) rfl ?_)
    exact ⟨rfl, HH.out, Kept.refl _ _⟩

/-- What take makes of the signs that are left: the sign, those that are left then, and what was wrong. -/
def takeR (s : ByteArray) (kd : Int) (x : Tok) (r : List Tok) (b : Er) : List Tok × Er :=
  if x.kind = 301 ∧ kd = 302 then (x :: r, stopB b (2, s.size))
  else if x.kind ≠ kd then (x :: r, stopB b (2, x.at_))
  else (if r = [] then x :: r else r, b)
def Four (M : Nat) (c0 c1 c2 c3 : Value) (w : World) : Prop := w.heap[M]? = some (.cells #[c0, c1, c2, c3] 58 (0, 0))
theorem Four.lt {M : Nat} {c0 c1 c2 c3 : Value} {w : World} (h : Four M c0 c1 c2 c3 w) : M < w.heap.size := (Array.getElem?_eq_some_iff.1 h).1
theorem Four.kept {M : Nat} {c0 c1 c2 c3 : Value} {w w' : World} {X : Nat → Prop} (h : Four M c0 c1 c2 c3 w) (hk : Kept X w w') (hx : ¬ X M) : Four M c0 c1 c2 c3 w' := by
  unfold Four; rw [hk.block M h.lt hx]; exact h
theorem Four.cells {M : Nat} {c0 c1 c2 c3 : Value} {w : World} (h : Four M c0 c1 c2 c3 w) : w.cell? ⟨M, 0, none⟩ = some c0 ∧ w.cell? ⟨M, 1, none⟩ = some c1 ∧ w.cell? ⟨M, 2, none⟩ = some c2 ∧ w.cell? ⟨M, 3, none⟩ = some c3 ∧ ∀ o, w.frozen? ⟨M, o, none⟩ = false := by
  unfold Four at h
  refine ⟨?_, ?_, ?_, ?_, fun o => by simp [World.frozen?, h]⟩ <;> (rw [cell_of_row w M _ _ _ _ h]; rfl)
def set4 (w : World) (M : Nat) (c0 c1 c2 c3 : Value) : World := (((w.setCell ⟨M, 0, none⟩ c0).setCell ⟨M, 1, none⟩ c1).setCell ⟨M, 2, none⟩ c2).setCell ⟨M, 3, none⟩ c3
theorem Four.set4 {M : Nat} {z0 z1 z2 z3 : Value} {w : World} (h : Four M z0 z1 z2 z3 w) (c0 c1 c2 c3 : Value) : Four M c0 c1 c2 c3 (set4 w M c0 c1 c2 c3) := by
  unfold Four at h ⊢
  unfold Go.Proofs.Ytdnglicgmlldlaa.set4
  rw [row_setCell (row_setCell (row_setCell (row_setCell h _) _) _) _]; rfl
theorem Kept.set4 {X : Nat → Prop} {a w : World} (h : Kept X a w) {M : Nat} (hM : X M ∨ a.heap.size ≤ M) (c0 c1 c2 c3 : Value) : Kept X a (set4 w M c0 c1 c2 c3) :=
  (((h.setCell (p := ⟨M, 0, none⟩) hM _).setCell (p := ⟨M, 1, none⟩) hM _).setCell (p := ⟨M, 2, none⟩) hM _).setCell (p := ⟨M, 3, none⟩) hM _
theorem results_four {f : Func} (hres : f.results = #[.cell 4 58]) {tmps : Array Value} {M : Nat} (ht : tmps.getD 4 undef = .pointer (some ⟨M, 0, none⟩)) {c0 c1 c2 c3 : Value} {w : World} (h : Four M c0 c1 c2 c3 w) :
    (results f tmps).run Try.prog w = .ok (.agg #[c0, c1, c2, c3]) w := by
  obtain ⟨h0, h1, h2, h3, _⟩ := h.cells
  have ht' : tmps[4]?.getD undef = .pointer (some ⟨M, 0, none⟩) := by rw [← ht, Array.getD_eq_getD_getElem?]
  simp [results, hres, go_sem, ht', h0, h1, h2, h3]
def tokV (x : Tok) : Value := .agg #[.int .i64 x.kind, .string x.text, .int .i64 x.at_, .int .i64 x.stop]
def TakePost (N G : Nat) (s : ByteArray) (kd : Int) (x : Tok) (r : List Tok) (d : Nat) (b : Er) (w : World) (e : Ending) (w' : World) : Prop :=
  e = .returned (tokV x) ∧ Wk N G s (takeR s kd x r b).1 d (takeR s kd x r b).2 w' ∧ Kept (· = N) w w'
theorem ret_tok {f : Func} (hres : f.results = #[.cell 4 58]) {tmps : Array Value} {M N G : Nat} {s : ByteArray} {kd : Int} {x : Tok} {r : List Tok} {d : Nat} {b : Er} {w w2 : World} {z0 z1 z2 z3 : Value}
    (ht : tmps.getD 4 undef = .pointer (some ⟨M, 0, none⟩)) (F : Four M z0 z1 z2 z3 w2) (W : Wk N G s (takeR s kd x r b).1 d (takeR s kd x r b).2 w2) (K : Kept (· = N) w w2) (hM : w.heap.size ≤ M) (hN : N < w.heap.size) (hG : G < w.heap.size) :
    bodyPost Try.prog f (TakePost N G s kd x r d b w) .ret ⟨tmps, []⟩ (set4 w2 M (.int .i64 x.kind) (.string x.text) (.int .i64 x.at_) (.int .i64 x.stop)) := by
  have K4 : Kept (· = M) w2 (set4 w2 M (.int .i64 x.kind) (.string x.text) (.int .i64 x.at_) (.int .i64 x.stop)) := (Kept.refl (· = M) w2).set4 (.inl rfl) _ _ _ _
  exact bodyPost_ret (v := tokV x) (results_four hres ht (F.set4 _ _ _ _)) rfl ⟨rfl, W.kept K4 (by omega) (by omega), K.set4 (.inr hM) _ _ _ _⟩
end Go.Proofs.Ytdnglicgmlldlaa
namespace Go.Proofs.Ytdnglicgmlldlaa
open Go.RowKit

theorem ret_tokG {f : Func} (hres : f.results = #[.cell 4 58]) {tmps : Array Value} {M N G : Nat} {s : ByteArray} {kd : Int} {x : Tok} {r : List Tok} {d : Nat} {b : Er} {w w2 : World}
    (ht : tmps.getD 4 undef = .pointer (some ⟨M, 0, none⟩)) (F : Four M (.int .i64 x.kind) (.string x.text) (.int .i64 x.at_) (.int .i64 x.stop) w2) (W : Wk N G s (takeR s kd x r b).1 d (takeR s kd x r b).2 w2) (K : Kept (· = N) w w2) :
    bodyPost Try.prog f (TakePost N G s kd x r d b w) .ret ⟨tmps, []⟩ w2 :=
  bodyPost_ret (v := tokV x) (results_four hres ht F) rfl ⟨rfl, W, K⟩
def ZeroT (M : Nat) (w : World) : Prop := Four M (.int .i64 0) (.string ⟨#[]⟩) (.int .i64 0) (.int .i64 0) w
set_option maxRecDepth 100000 in
set_option maxHeartbeats 2000000 in
theorem take_any (N G : Nat) (s : ByteArray) (kd : Int) (x : Tok) (r : List Tok) (d : Nat) (b : Er) (w : World) (h : Wk N G s (x :: r) d b w) (hs : s.size ≤ 65536) :
    Calls Try.prog 40 #[.pointer (some ⟨N, 0, none⟩), .int .i64 kd] w (TakePost N G s kd x r d b w) := by
  have hN := h.ltN; have hG := h.lt; have hne := h.ne
  have hlen := h.len
  obtain ⟨o, c, x', r', e, hF, hL⟩ := h.open
  simp only [List.cons.injEq] at e
  obtain ⟨rfl, rfl⟩ := e
  obtain ⟨c0, c1, c2, c3, c4, cf⟩ := hF.cells
  obtain ⟨l0, l1, l2, l3⟩ := hL.head
  have f0 := cf 0
  obtain ⟨w0, hw0⟩ : ∃ w0, w0 = (w.alloc (.cells #[.int .i64 0, .string ⟨#[]⟩, .int .i64 0, .int .i64 0] 58)).alloc (.cells #[.int .i64 x.kind, .string x.text, .int .i64 x.at_, .int .i64 x.stop] 58) := ⟨_, rfl⟩
  have k0 : Kept Nix w w0 := by rw [hw0]; exact ((Kept.refl _ _).alloc _).alloc _
  have W0 := Lib.hid (h.kept k0 (fun h => h) (fun h => h))
  have Z0 : Hid (ZeroT w.heap.size w0) := by rw [hw0]; exact Four.kept (heap_alloc_new w _) ((Kept.refl Nix _).alloc _) (fun h => h)
  have X0 : Hid (Four (w.heap.size + 1) (.int .i64 x.kind) (.string x.text) (.int .i64 x.at_) (.int .i64 x.stop) w0) := by rw [hw0]; exact heap_new2 (by simp)
  have K0 : Hid (Kept (· = N) w w0) := k0.more (fun _ h => h.elim)
  have hz0 : w0.heap.size = w.heap.size + 2 := by rw [hw0]; simp
  have HZ0 := Lib.hid hz0; have HW0 := Lib.hid hw0
  have HL := Lib.hid hL; have HF := Lib.hid hF
  have HH := Lib.hid h
  clear hz0 k0 hw0 cf h hL hF
  by_cases hA : x.kind = 301 ∧ kd = 302
  · have e1 : Hid (takeR s kd x r b = (x :: r, stopB b (2, s.size))) := by unfold Hid takeR; rw [if_pos hA]
    obtain ⟨h1, h2⟩ := hA
    have b1 : (x.kind == 301) = true := by simpa using h1
    have b2 : (kd == 302) = true := by simpa using h2
    clear h1 h2
    go_enter Try.func40, Try.ntmps40
    go_wp2_with fail
    rw [← HW0.out]
    refine (stop_any N G s (x :: r) d b (2, s.size) _ W0.out).mono ?_
    rintro e w1 ⟨rfl, W1, k1⟩
    have hz0 := HZ0.out
    have Z1 := Lib.hid (Four.kept Z0.out k1 (by omega)); have X1 := X0.out.kept k1 (by omega)
    have K1 := Lib.hid (K0.out.trans k1)
    have WW1 : Hid (Wk N G s (takeR s kd x r b).1 d (takeR s kd x r b).2 w1) := by rw [e1.out]; exact W1
    obtain ⟨x0, x1, x2, x3, _⟩ := X1.cells
    obtain ⟨z0, z1, z2, z3, zf⟩ := Four.cells Z1.out
    have g0 := zf 0; have g1 := zf 1; have g2 := zf 2; have g3 := zf 3
    clear zf X1 W1 k1
    go_wp2_with fail
    exact ret_tok rfl rfl Z1.out WW1.out K1.out (Nat.le_refl _) hN hG
  by_cases hB : x.kind = kd
  · have e1 : Hid (takeR s kd x r b = (if r = [] then x :: r else r, b)) := by unfold Hid takeR; rw [if_neg hA, if_neg (by simpa using hB)]
    have b3 : (x.kind != kd) = false := by simpa using hB
    have hAk : (x.kind == 301) = false ∨ ((x.kind == 301) = true ∧ (kd == 302) = false) := by
      by_cases h1 : x.kind = 301
      · exact .inr ⟨by simpa using h1, by simp; omega⟩
      · exact .inl (by simpa using h1)
    clear hA hB
    by_cases hr : r = []
    · subst hr
      have kk : Kept Nix w ((w.alloc (.cells #[.int .i64 x.kind, .string x.text, .int .i64 x.at_, .int .i64 x.stop] 58)).alloc (.cells #[.int .i64 x.kind, .string x.text, .int .i64 x.at_, .int .i64 x.stop] 58)) := ((Kept.refl _ _).alloc _).alloc _
      have W1 : Hid (Wk N G s (takeR s kd x [] b).1 d (takeR s kd x [] b).2 ((w.alloc (.cells #[.int .i64 x.kind, .string x.text, .int .i64 x.at_, .int .i64 x.stop] 58)).alloc (.cells #[.int .i64 x.kind, .string x.text, .int .i64 x.at_, .int .i64 x.stop] 58))) := by rw [e1.out]; exact HH.out.kept kk (fun h => h) (fun h => h)
      have F1 : Hid (Four w.heap.size (.int .i64 x.kind) (.string x.text) (.int .i64 x.at_) (.int .i64 x.stop) ((w.alloc (.cells #[.int .i64 x.kind, .string x.text, .int .i64 x.at_, .int .i64 x.stop] 58)).alloc (.cells #[.int .i64 x.kind, .string x.text, .int .i64 x.at_, .int .i64 x.stop] 58))) := Four.kept (heap_alloc_new w _) ((Kept.refl Nix _).alloc _) (fun h => h)
      have KK := Lib.hid (kk.more (Y := (· = N)) (fun _ h => h.elim)); clear kk
      rcases hAk with h1 | ⟨h1, h2⟩
      all_goals
        go_enter Try.func40, Try.ntmps40
        go_wp2_with fail
        exact ret_tokG rfl rfl F1.out W1.out KK.out
    · have hrl : 0 < r.length := List.length_pos_iff.2 hr
      obtain ⟨hT, hc1⟩ := LeftAt.tail HL.out hrl
      have HT := Lib.hid hT; clear hT
      have kk : Kept (· = N) w (((w.setCell ⟨N, 0, none⟩ (.slice (some ⟨G, o + 4, none⟩) r.length (c - 1))).alloc (.cells #[.int .i64 x.kind, .string x.text, .int .i64 x.at_, .int .i64 x.stop] 58)).alloc (.cells #[.int .i64 x.kind, .string x.text, .int .i64 x.at_, .int .i64 x.stop] 58)) := (((Kept.refl (· = N) w).setCell (p := ⟨N, 0, none⟩) (.inl rfl) _).alloc _).alloc _
      have hlr : r.length ≤ 100000 := by rw [List.length_cons] at hlen; omega
      have W1 : Hid (Wk N G s (takeR s kd x r b).1 d (takeR s kd x r b).2 (((w.setCell ⟨N, 0, none⟩ (.slice (some ⟨G, o + 4, none⟩) r.length (c - 1))).alloc (.cells #[.int .i64 x.kind, .string x.text, .int .i64 x.at_, .int .i64 x.stop] 58)).alloc (.cells #[.int .i64 x.kind, .string x.text, .int .i64 x.at_, .int .i64 x.stop] 58))) := by
        unfold Hid
        rw [e1.out, if_neg hr]
        refine ⟨⟨.slice (some ⟨G, o + 4, none⟩) r.length (c - 1), ?_, HT.out.kept kk hG hne⟩, hne, Nat.lt_of_lt_of_le hG kk.size, hr, hlr⟩
        have h1 : (w.setCell ⟨N, 0, none⟩ (.slice (some ⟨G, o + 4, none⟩) r.length (c - 1))).heap[N]? = some (.cells #[.slice (some ⟨G, o + 4, none⟩) r.length (c - 1), .string s, .int .i64 d, .int .i64 b.1, .int .i64 b.2] 56 (0, 0)) := by rw [row_setCell HF.out]; rfl
        have hn2 : N < (w.setCell ⟨N, 0, none⟩ (.slice (some ⟨G, o + 4, none⟩) r.length (c - 1))).heap.size := (Array.getElem?_eq_some_iff.1 h1).1
        rw [Below.heap_alloc _ _ _ (by simp; omega), Below.heap_alloc _ _ _ hn2]; exact h1
      have F1 : Hid (Four w.heap.size (.int .i64 x.kind) (.string x.text) (.int .i64 x.at_) (.int .i64 x.stop) (((w.setCell ⟨N, 0, none⟩ (.slice (some ⟨G, o + 4, none⟩) r.length (c - 1))).alloc (.cells #[.int .i64 x.kind, .string x.text, .int .i64 x.at_, .int .i64 x.stop] 58)).alloc (.cells #[.int .i64 x.kind, .string x.text, .int .i64 x.at_, .int .i64 x.stop] 58))) := Four.kept (heap_new2 (by simp [World.setCell])) ((Kept.refl Nix _).alloc _) (fun h => h)
      have KK := Lib.hid kk
      clear kk hr
      rcases hAk with h1 | ⟨h1, h2⟩
      all_goals
        go_enter Try.func40, Try.ntmps40
        go_wp2_with fail
        exact ret_tokG rfl rfl F1.out W1.out KK.out
  · have e1 : Hid (takeR s kd x r b = (x :: r, stopB b (2, x.at_))) := by unfold Hid takeR; rw [if_neg hA, if_pos hB]
    have b3 : (x.kind != kd) = true := by simpa using hB
    have hAk : (x.kind == 301) = false ∨ ((x.kind == 301) = true ∧ (kd == 302) = false) := by
      by_cases h1 : x.kind = 301
      · exact .inr ⟨by simpa using h1, by simp; omega⟩
      · exact .inl (by simpa using h1)
    clear hA hB
    rcases hAk with h1 | ⟨h1, h2⟩
    all_goals
      go_enter Try.func40, Try.ntmps40
      go_wp2_with fail
      rw [← HW0.out]
      refine (stop_any N G s (x :: r) d b (2, x.at_) _ W0.out).mono ?_
      rintro e w1 ⟨rfl, W1, k1⟩
      have hz0 := HZ0.out
      have Z1 := Lib.hid (Four.kept Z0.out k1 (by omega)); have X1 := X0.out.kept k1 (by omega)
      have K1 := Lib.hid (K0.out.trans k1)
      have WW1 : Hid (Wk N G s (takeR s kd x r b).1 d (takeR s kd x r b).2 w1) := by rw [e1.out]; exact W1
      obtain ⟨x0, x1, x2, x3, _⟩ := X1.cells
      obtain ⟨z0, z1, z2, z3, zf⟩ := Four.cells Z1.out
      have g0 := zf 0; have g1 := zf 1; have g2 := zf 2; have g3 := zf 3
      clear zf X1 W1 k1
      go_wp2_with fail
      exact ret_tok rfl rfl Z1.out WW1.out K1.out (Nat.le_refl _) hN hG
end Go.Proofs.Ytdnglicgmlldlaa

/- The program's reader of lines: names. Names of the library; the document's Names; whether two lists of texts are the same. -/
import Derived.Test.YtlnhcgihpclpaaaGreatDoorLm18
import Derived.Test.YtlnhcgihpclpaaaGreatDoorLm3
namespace Go.Proofs.YtlnhcgihpclpaaaGreatDoor
set_option linter.all false
open Go.RowKit

def strR (l : List ByteArray) : List Value := l.map Value.string
theorem infoStrL : (Tryz.prog.info? 9).map (fun i => (i.zero, i.size, i.bytes)) = some (some (.string ⟨#[]⟩), 1, 16) := by kernel_rfl
theorem strR_snoc (l : List ByteArray) (x : ByteArray) : strR l ++ [.string x] = strR (l ++ [x]) := by simp [strR]
theorem wpList_app_name {ops : Array Oper} {rest : List Oper} {o : Oper} {a : Act} {Q : Exit → Act → World → Prop} {w : World} (hgd : o.guard = none) (s x : Operand)
    (ho : o.op = .call { callee := .builtin .append, args := #[s, x], argTypes := #[25, 25] })
    (v : Value) (n : Nat) (l : List ByteArray) (t : ByteArray) (hnd : n = l.length) (hs : a.eval s = v) (B : Nat) (hown : Win w B 9 1 v n (strR l)) (g : Nat) (hx : a.eval x = .slice (some ⟨g, 0, none⟩) 1 1)
    (hg : w.heap[g]? = some (.cells #[.string t] 9 (0, 0))) (hn : l.length ≤ 1000000) (hB : B ≤ w.heap.size)
    (h : ∀ a' c' n' w', Hid (n' = (l ++ [t]).length) → Win w' B 9 1 (.slice a' n' c') n' (strR (l ++ [t])) → Kept (fun b => B ≤ b) w w' → wpList Tryz.prog ops Q rest (a.put o.dst (.slice a' n' c')) w') :
    wpList Tryz.prog ops Q (o :: rest) a w := by
  obtain ⟨i0, hi0, hz0, hz1, hz2⟩ := info_parts infoStrL
  have hsr : Src Tryz.prog 1 25 (.slice (some ⟨g, 0, none⟩) 1 1) 1 [.string t] w :=
    Src.ofSlice _ Tryz.underlying25 _ _ _ _ rfl (World.news_of_block (fr := (0, 0)) (cs := #[.string t]) hg) (by intro u hu; simp at hu; subst hu; rfl)
  refine wpList_append_win w hgd s x _ _ ho B 9 i0 (.string ⟨#[]⟩) 1 16 Tryz.underlying25 hi0 hz0 hz1 hz2 rfl v n (strR l) hs hown _ 1 _ hx hsr (by unfold maxLen; omega) (by omega) hB ?_
  intro a' c' w' hW hgr _
  rw [strR_snoc] at hW
  exact h a' c' _ w' (by unfold Hid; rw [List.length_append, hnd]; rfl) hW ((Kept.refl _ w).grown hgr fun k hk => .inl (hown.lt k hk).1)
def NamesLQ (N T en d : Nat) (res : TRes (List ByteArray)) (w : World) (e : Ending) (w' : World) : Prop :=
  Kept (· = N) w w' ∧ match res with
    | .ok (ns, r) => (∃ a c, e = .returned (.slice a ns.length c) ∧ Win w' w.heap.size 9 1 (.slice a ns.length c) ns.length (strR ns)) ∧ PsR N T en r d w'
    | .error er => ThrewL er e
theorem NamesLQ.thrown {N T en d : Nat} {r : TRes (List ByteArray)} {w w2 w3 : World} {er : Er} (K : Kept (· = N) w w2) (k : Kept (· = N) w2 w3) (hr : r = .error er) : NamesLQ N T en d r w (.panicked [{ v := lineOops er, recovered := false }]) w3 := by
  subst hr; exact ⟨K.trans k, rfl⟩
/-- What holds while names are read. -/
structure NmI (N T en d : Nat) (w : World) (ns : List ByteArray) (v : Value) (n : Nat) (l : List LTok) (wx : World) : Prop where
  num : n = ns.length
  rdr : PsR N T en l d wx
  win : Win wx w.heap.size 9 1 v n (strR ns)
  kept : Kept (· = N) w wx
theorem NmI.rdr_to {N T en d : Nat} {w wx wy : World} {ns : List ByteArray} {v : Value} {n : Nat} {l l2 : List LTok} (h : NmI N T en d w ns v n l wx) (hN : N < w.heap.size) (hk : Kept (· = N) wx wy) (hr : PsR N T en l2 d wy) : NmI N T en d w ns v n l2 wy :=
  ⟨h.num, hr, h.win.kept hk (fun k hk2 e => by have := (h.win.lt k hk2).1; omega), h.kept.trans hk⟩
set_option maxRecDepth 100000 in
set_option maxHeartbeats 8000000 in
theorem lnames_close {N T en d : Nat} {l : List LTok} {w : World} (h : PsR N T en l d w) : Calls Tryz.prog 85 #[.pointer (some ⟨N, 0, none⟩), .string ⟨#[41]⟩] w (NamesLQ N T en d (namesT (some (bs [41])) en 9 [] l) w) := by
  obtain ⟨hN, hT, hne, h7⟩ := h.ltN
  have I0 : Hid (NmI N T en d w [] (.slice none 0 0) 0 l w) := ⟨rfl, h, Win.nil _ _ _ _, Kept.refl _ _⟩
  clear h
  go_enter Tryz.func85, Tryz.ntmps85
  go_wp2_with fail
  go_loopg [5] 9 (fun f x wr => ∃ (ns : List ByteArray) (a : Option Addr) (n c : Nat) (l2 : List LTok), x = .slice a n c ∧ Hid (ns.length + f = 9 ∧ ns.length ≤ 8) ∧ Hid (NmI N T en d w ns (.slice a n c) n l2 wr) ∧ Hid (namesT (some (bs [41])) en 9 [] l = namesT (some (bs [41])) en f ns l2))
  case atStart => exact ⟨[], none, 0, 0, l, rfl, by unfold Hid; decide, I0, rfl⟩
  case round =>
    obtain ⟨ns, a, n, c, l2, rfl, hf, I, hch⟩ := hrel
    have hnn := I.out.num
    by_cases h8 : ns.length = 8
    · have z : ((n : Int) == 8) = true := by rw [hnn, h8]; rfl
      obtain rfl : gk = 1 := by have := hf.out; omega
      have er3 : Hid (namesT (some (bs [41])) en 9 [] l = .error (5, atT en l2)) := by unfold Hid; rw [hch.out, namesT, if_pos h8]
      obtain ⟨n9, a9, c9, r9⟩ := I.out.rdr
      have HA := Lib.hid (lat_any r9)
      clear r9 h8 hf hch hnn
      go_wp2_with (first
        | (go_at_call 49; (refine HA.out.mono ?_); rintro e w' ⟨rfl, hw_⟩; obtain rfl := hw_.symm)
        | (go_at_call 48; (refine (lfail_any _ 5 (atT en l2) wr).mono ?_); rintro e w9 ⟨rfl, rfl⟩))
      exact ⟨rfl, NamesLQ.thrown I.out.kept (Kept.refl _ _) er3.out⟩
    · have z : ((n : Int) == 8) = false := by simp; omega
      obtain ⟨g, rfl⟩ : ∃ g, gk = g + 1 := by have := hf.out; exact ⟨gk - 1, by omega⟩
      have HK8 : Hid (ns.length + g = 8 ∧ ns.length < 8) := by have := hf.out; unfold Hid; omega
      cases hu : nameT en l2 with
      | error e0 =>
        have er3 : Hid (namesT (some (bs [41])) en 9 [] l = .error e0) := by unfold Hid; rw [hch.out, namesT, if_neg h8, hu]
        have HU := Lib.hid hu
        clear h8 hf hch hnn hu
        go_wp2_with (go_at_call 43; (refine (lname_any I.out.rdr).mono ?_); intro e w3 h3_; obtain ⟨k3_, rfl⟩ := h3_.bad HU.out; have K3 := Lib.hid k3_; clear k3_ h3_)
        exact ⟨rfl, NamesLQ.thrown I.out.kept K3.out er3.out⟩
      | ok y =>
        obtain ⟨nm, r⟩ := y
        have HU := Lib.hid hu
        have er3 : Hid (namesT (some (bs [41])) en 9 [] l = if signT (bs [41]) r = true then .ok (ns ++ [nm], r.tail) else match needT (bs [44]) en r with | .error er => .error er | .ok r2 => namesT (some (bs [41])) en g (ns ++ [nm]) r2) := by unfold Hid; rw [hch.out, namesT, if_neg h8, hu]; try rfl
        clear h8 hf hch hnn hu
        go_upto_region 5 with (first
          | (go_at_call 43; (refine (lname_any I.out.rdr).mono ?_); intro e w3 h3_; obtain ⟨k3_, rfl, r3_⟩ := h3_.ok HU.out; have I3 := Lib.hid (I.out.rdr_to hN k3_ r3_); clear k3_ r3_ h3_)
          | (refine wpList_app_name rfl _ _ rfl _ n ns nm I3.out.num rfl w.heap.size (I3.out.win.alloc _) _ rfl (heap_alloc_new w3 _) (by have := HK8.out; omega) (by have := I3.out.kept.size; simp; omega) ?_; intro a9 c9 n9 w9 hn9 hW9 hk9; have K9 : Kept (fun b => w.heap.size ≤ b) w3 w9 := ((Kept.refl _ w3).alloc _).trans hk9; have I9 : Hid (NmI N T en d w (ns ++ [nm]) (.slice a9 n9 c9) n9 r w9) := ⟨hn9.out, I3.out.rdr.kept K9 (by omega) (by omega) (by omega), hW9, I3.out.kept.step K9 (fun y hy => .inr hy)⟩; clear hW9 hk9 K9 hn9))
        cases hs : signT ⟨#[41]⟩ r with
        | true =>
          have er4 : Hid (namesT (some (bs [41])) en 9 [] l = .ok (ns ++ [nm], r.tail)) := by unfold Hid; rw [er3.out]; exact if_pos hs
          go_wp2_with (go_at_call 46; (with_reducible refine (lis_yes ⟨#[41]⟩ I9.out.rdr hs).mono ?_); rintro e w10 ⟨rfl, r10_, k10_⟩; have I10 := Lib.hid (I9.out.rdr_to hN k10_ r10_); clear r10_ k10_)
          go_ret
          refine ⟨I10.out.kept, ?_⟩
          rw [er4.out]
          exact ⟨⟨a9, c9, by rw [← I10.out.num]; rfl, by rw [← I10.out.num]; exact I10.out.win⟩, I10.out.rdr⟩
        | false =>
          cases hv : needT (bs [44]) en r with
          | error e0 =>
            have er4 : Hid (namesT (some (bs [41])) en 9 [] l = .error e0) := by unfold Hid; rw [er3.out, if_neg (by rw [show signT (bs [41]) r = false from hs]; decide), hv]
            go_wp2_with (first
              | (go_at_call 46; (with_reducible refine (lis_no ⟨#[41]⟩ I9.out.rdr hs).mono ?_); rintro e w10 ⟨rfl, r10_, k10_⟩; have I10 := Lib.hid (I9.out.rdr_to hN k10_ r10_); clear r10_ k10_)
              | (go_at_call 67; (refine (lneed_any (bs [44]) I10.out.rdr).mono ?_); intro e w8 h8_; obtain ⟨k8_, rfl⟩ := h8_.bad hv; have K8 := Lib.hid k8_; clear k8_ h8_))
            exact ⟨rfl, NamesLQ.thrown I10.out.kept K8.out er4.out⟩
          | ok r2 =>
            have er4 : Hid (namesT (some (bs [41])) en 9 [] l = namesT (some (bs [41])) en g (ns ++ [nm]) r2) := by unfold Hid; rw [er3.out, if_neg (by rw [show signT (bs [41]) r = false from hs]; decide), hv]
            go_wp2_with (first
              | (go_at_call 46; (with_reducible refine (lis_no ⟨#[41]⟩ I9.out.rdr hs).mono ?_); rintro e w10 ⟨rfl, r10_, k10_⟩; have I10 := Lib.hid (I9.out.rdr_to hN k10_ r10_); clear r10_ k10_)
              | (go_at_call 67; (refine (lneed_any (bs [44]) I10.out.rdr).mono ?_); intro e w8 h8_; obtain ⟨k8_, rfl, r8_⟩ := h8_.ok hv; have I11 := Lib.hid (I10.out.rdr_to hN k8_ r8_); clear k8_ r8_ h8_))
            go_roundg g
            case measure => omega
            case rel => exact ⟨ns ++ [nm], a9, n9, c9, r2, rfl, by have := HK8.out; unfold Hid; rw [List.length_append]; simp; omega, I11, er4⟩
set_option maxRecDepth 100000 in
set_option maxHeartbeats 8000000 in
theorem lnames_open {N T en d : Nat} {l : List LTok} {w : World} (h : PsR N T en l d w) : Calls Tryz.prog 85 #[.pointer (some ⟨N, 0, none⟩), .string ⟨#[]⟩] w (NamesLQ N T en d (namesT none en 9 [] l) w) := by
  obtain ⟨hN, hT, hne, h7⟩ := h.ltN
  have I0 : Hid (NmI N T en d w [] (.slice none 0 0) 0 l w) := ⟨rfl, h, Win.nil _ _ _ _, Kept.refl _ _⟩
  clear h
  go_enter Tryz.func85, Tryz.ntmps85
  go_wp2_with fail
  go_loopg [5] 9 (fun f x wr => ∃ (ns : List ByteArray) (a : Option Addr) (n c : Nat) (l2 : List LTok), x = .slice a n c ∧ Hid (ns.length + f = 9 ∧ ns.length ≤ 8) ∧ Hid (NmI N T en d w ns (.slice a n c) n l2 wr) ∧ Hid (namesT none en 9 [] l = namesT none en f ns l2))
  case atStart => exact ⟨[], none, 0, 0, l, rfl, by unfold Hid; decide, I0, rfl⟩
  case round =>
    obtain ⟨ns, a, n, c, l2, rfl, hf, I, hch⟩ := hrel
    have hnn := I.out.num
    by_cases h8 : ns.length = 8
    · have z : ((n : Int) == 8) = true := by rw [hnn, h8]; rfl
      obtain rfl : gk = 1 := by have := hf.out; omega
      have er3 : Hid (namesT none en 9 [] l = .error (5, atT en l2)) := by unfold Hid; rw [hch.out, namesT, if_pos h8]
      obtain ⟨n9, a9, c9, r9⟩ := I.out.rdr
      have HA := Lib.hid (lat_any r9)
      clear r9 h8 hf hch hnn
      go_wp2_with (first
        | (go_at_call 49; (refine HA.out.mono ?_); rintro e w' ⟨rfl, hw_⟩; obtain rfl := hw_.symm)
        | (go_at_call 48; (refine (lfail_any _ 5 (atT en l2) wr).mono ?_); rintro e w9 ⟨rfl, rfl⟩))
      exact ⟨rfl, NamesLQ.thrown I.out.kept (Kept.refl _ _) er3.out⟩
    · have z : ((n : Int) == 8) = false := by simp; omega
      obtain ⟨g, rfl⟩ : ∃ g, gk = g + 1 := by have := hf.out; exact ⟨gk - 1, by omega⟩
      have HK8 : Hid (ns.length + g = 8 ∧ ns.length < 8) := by have := hf.out; unfold Hid; omega
      cases hu : nameT en l2 with
      | error e0 =>
        have er3 : Hid (namesT none en 9 [] l = .error e0) := by unfold Hid; rw [hch.out, namesT, if_neg h8, hu]
        have HU := Lib.hid hu
        clear h8 hf hch hnn hu
        go_wp2_with (go_at_call 43; (refine (lname_any I.out.rdr).mono ?_); intro e w3 h3_; obtain ⟨k3_, rfl⟩ := h3_.bad HU.out; have K3 := Lib.hid k3_; clear k3_ h3_)
        exact ⟨rfl, NamesLQ.thrown I.out.kept K3.out er3.out⟩
      | ok y =>
        obtain ⟨nm, r⟩ := y
        have HU := Lib.hid hu
        have er3 : Hid (namesT none en 9 [] l = if signT (bs [44]) r = true then namesT none en g (ns ++ [nm]) r.tail else .ok (ns ++ [nm], r)) := by unfold Hid; rw [hch.out, namesT, if_neg h8, hu]; try rfl
        clear h8 hf hch hnn hu
        go_upto_region 5 with (first
          | (go_at_call 43; (refine (lname_any I.out.rdr).mono ?_); intro e w3 h3_; obtain ⟨k3_, rfl, r3_⟩ := h3_.ok HU.out; have I3 := Lib.hid (I.out.rdr_to hN k3_ r3_); clear k3_ r3_ h3_)
          | (refine wpList_app_name rfl _ _ rfl _ n ns nm I3.out.num rfl w.heap.size (I3.out.win.alloc _) _ rfl (heap_alloc_new w3 _) (by have := HK8.out; omega) (by have := I3.out.kept.size; simp; omega) ?_; intro a9 c9 n9 w9 hn9 hW9 hk9; have K9 : Kept (fun b => w.heap.size ≤ b) w3 w9 := ((Kept.refl _ w3).alloc _).trans hk9; have I9 : Hid (NmI N T en d w (ns ++ [nm]) (.slice a9 n9 c9) n9 r w9) := ⟨hn9.out, I3.out.rdr.kept K9 (by omega) (by omega) (by omega), hW9, I3.out.kept.step K9 (fun y hy => .inr hy)⟩; clear hW9 hk9 K9 hn9))
        obtain ⟨n9', a9', c9', r9⟩ := I9.out.rdr
        have HS := Lib.hid (lsign_any ⟨#[44]⟩ r9)
        clear r9
        cases hs : signT ⟨#[44]⟩ r with
        | false =>
          rw [hs] at HS
          have er4 : Hid (namesT none en 9 [] l = .ok (ns ++ [nm], r)) := by unfold Hid; rw [er3.out]; exact if_neg (by rw [show signT (bs [44]) r = false from hs]; decide)
          go_wp2_with (go_at_call 44; (refine HS.out.mono ?_); rintro e w' ⟨rfl, hw_⟩; obtain rfl := hw_.symm)
          go_ret
          refine ⟨I9.out.kept, ?_⟩
          rw [er4.out]
          exact ⟨⟨a9, c9, by rw [← I9.out.num]; rfl, by rw [← I9.out.num]; exact I9.out.win⟩, I9.out.rdr⟩
        | true =>
          rw [hs] at HS
          have er4 : Hid (namesT none en 9 [] l = namesT none en g (ns ++ [nm]) r.tail) := by unfold Hid; rw [er3.out]; exact if_pos hs
          have hv : needT (bs [44]) en r = .ok r.tail := if_pos hs
          go_wp2_with (first
            | (go_at_call 44; (refine HS.out.mono ?_); rintro e w' ⟨rfl, hw_⟩; obtain rfl := hw_.symm)
            | (go_at_call 67; (refine (lneed_any (bs [44]) I9.out.rdr).mono ?_); intro e w8 h8_; obtain ⟨k8_, rfl, r8_⟩ := h8_.ok hv; have I11 := Lib.hid (I9.out.rdr_to hN k8_ r8_); clear k8_ r8_ h8_))
          go_roundg g
          case measure => omega
          case rel => exact ⟨ns ++ [nm], a9, n9, c9, r.tail, rfl, by have := HK8.out; unfold Hid; rw [List.length_append]; simp; omega, I11, er4⟩
end Go.Proofs.YtlnhcgihpclpaaaGreatDoor

namespace Go.Proofs.YtlnhcgihpclpaaaGreatDoor
set_option linter.all false
open Go.RowKit

def namesA : List ByteArray := [⟨#[98, 105, 110, 97, 114, 121]⟩, ⟨#[98, 114, 97, 99, 107, 101, 116, 115]⟩, ⟨#[99, 97, 101, 115, 97, 114]⟩, ⟨#[99, 97, 116]⟩, ⟨#[99, 111, 108, 108, 97, 116, 122]⟩, ⟨#[99, 111, 117, 110, 116]⟩, ⟨#[100, 105, 103, 105, 116, 115]⟩, ⟨#[100, 105, 118, 105, 115, 111, 114, 115]⟩, ⟨#[101, 117, 99, 108, 105, 100]⟩, ⟨#[102, 97, 99, 116, 111, 114, 105, 97, 108]⟩, ⟨#[102, 105, 98, 111, 110, 97, 99, 99, 105]⟩, ⟨#[102, 105, 101, 108, 100, 115]⟩, ⟨#[104, 97, 110, 111, 105]⟩, ⟨#[104, 101, 97, 100]⟩, ⟨#[108, 111, 110, 103, 101, 115, 116]⟩, ⟨#[109, 105, 114, 114, 111, 114]⟩, ⟨#[110, 117, 109, 98, 101, 114]⟩, ⟨#[112, 97, 115, 99, 97, 108]⟩, ⟨#[112, 114, 105, 109, 101, 115]⟩, ⟨#[114, 97, 110, 103, 101]⟩, ⟨#[114, 101, 118, 101, 114, 115, 101]⟩, ⟨#[114, 111, 109, 97, 110]⟩, ⟨#[115, 111, 114, 116]⟩, ⟨#[115, 113, 117, 101, 101, 122, 101]⟩, ⟨#[115, 117, 109]⟩, ⟨#[117, 110, 105, 113, 117, 101]⟩, ⟨#[117, 112, 112, 101, 114]⟩, ⟨#[118, 111, 119, 101, 108, 115]⟩, ⟨#[119, 111, 114, 100, 115]⟩]
theorem namesA_eq : tabA.map (·.1) = namesA := by kernel_rfl
set_option maxRecDepth 100000 in
set_option maxHeartbeats 4000000 in
theorem refNames_any (w : World) : Calls Tryz.prog 8 #[] w (fun e w' => e = .returned (.slice (some ⟨w.heap.size, 0, none⟩) 29 29) ∧ w' = w.alloc (.cells (strR namesA).toArray 9)) := by
  go_enter Tryz.func8, Tryz.ntmps8
  go_wp2_with fail
  go_ret
  refine ⟨rfl, ?_⟩
  refine congrArg (fun x => w.alloc (.cells x 9)) ?_
  kernel_rfl
theorem TabAt.keptW {w w2 : World} {a : Option Addr} {l : ShelfT} (h : TabAt w a l) (hk : Kept (fun b => w.heap.size ≤ b) w w2) : TabAt w2 a l := by
  obtain ⟨g, o, e, hg, hc⟩ := h
  exact ⟨g, o, e, Nat.lt_of_lt_of_le hg hk.size, fun j hj => ⟨(hk.cell hg (fun h => by omega)).trans (hc j hj).1, (hk.cell hg (fun h => by omega)).trans (hc j hj).2⟩⟩
def NamesQ (w : World) (e : Ending) (w' : World) : Prop := ∃ a c, e = .returned (.slice a 29 c) ∧ Win w' w.heap.size 9 1 (.slice a 29 c) 29 (strR namesA) ∧ Kept Nix w w'
set_option maxRecDepth 100000 in
set_option maxHeartbeats 4000000 in
theorem names_any (w : World) : Calls Tryz.prog 6 #[] w (NamesQ w) := by
  have hlen : tabA.length = 29 := rfl
  obtain ⟨T, hT⟩ : ∃ T, T = tabA := ⟨_, rfl⟩
  have HN : Hid (T.map (·.1) = namesA) := by unfold Hid; rw [hT]; exact namesA_eq
  have HSV : Hid (∀ wx, Calls Tryz.prog 11 #[] wx (fun e w' => ∃ a c, e = .returned (.slice a 29 c) ∧ TabAt w' a T ∧ Kept Nix wx w')) := fun wx => (shelves_any wx).mono (by
    rintro e w' ⟨a, c, rfl, hw, hk⟩
    exact ⟨a, c, rfl, by rw [hT]; exact TabAt.of hw (by decide) hlen, hk⟩)
  rw [← hT] at hlen
  clear hT
  go_enter Tryz.func6, Tryz.ntmps6
  go_wp2_with (go_at_call 11; (refine (HSV.out w).mono ?_); rintro e w1 ⟨a, c, rfl, t_, k_⟩; have T1 := Lib.hid t_; have K1 := Lib.hid k_; clear t_ k_)
  go_loopg [1, 6] 29 (fun f v x wr => ∃ (j n2 : Nat) (na : Option Addr) (nc : Nat), x = .int .i64 j ∧ v = .slice na n2 nc ∧ j ≤ 29 ∧ f = 29 - j ∧ Hid (n2 = j) ∧ Hid (Win wr w1.heap.size 9 1 (.slice na n2 nc) n2 (strR ((T.map (·.1)).take j))) ∧ Hid (Kept (fun b => w1.heap.size ≤ b) w1 wr))
  case atStart => exact ⟨0, 0, none, 0, rfl, rfl, Nat.zero_le _, rfl, rfl, Win.nil _ _ _ _, Kept.refl _ _⟩
  case round =>
    obtain ⟨j, n2, na, nc, rfl, rfl, hj, rfl, hn, W, K⟩ := hrel
    by_cases hlt : j < 29
    · have e1 : decide ((j : Int) < (29 : Int)) = true := decide_eq_true (by omega)
      have bj : (j : Int) < (29 : Int) := by omega
      have hjT : j < T.length := by omega
      obtain ⟨g, o, rfl, hg, hc⟩ := T1.out.keptW K.out
      obtain ⟨q0, q1⟩ := hc j hjT
      obtain ⟨x1, hx1⟩ : ∃ x, x = T[j].1 := ⟨_, rfl⟩
      obtain ⟨x2, hx2⟩ : ∃ x, x = T[j].2 := ⟨_, rfl⟩
      rw [← hx1] at q0
      rw [← hx2] at q1
      have q1' : wr.cell? ⟨g, o + j * 2 + 1, none⟩ = some (.string x2) := q1
      have hsn : Hid ((T.map (·.1)).take (j + 1) = (T.map (·.1)).take j ++ [x1]) := by
        unfold Hid
        rw [List.take_succ, List.getElem?_map, List.getElem?_eq_getElem hjT, hx1]; rfl
      have hll : Hid (((T.map (·.1)).take j).length = j) := by unfold Hid; rw [List.length_take, List.length_map]; omega
      obtain ⟨ls, hls⟩ : ∃ ls, ls = (T.map (·.1)).take j := ⟨_, rfl⟩
      rw [← hls] at hsn hll W
      have HLS := Lib.hid hls
      clear hc hg hx1 hx2 q1 hls
      go_upto_region 5 with fail
      obtain ⟨w2, hw2⟩ : ∃ w2, w2 = wr.alloc (.cells #[.string x1, .string x2] 39) := ⟨_, rfl⟩
      have k2 : Kept Nix wr w2 := by rw [hw2]; exact (Kept.refl _ _).alloc _
      have r2 : w2.heap[wr.heap.size]? = some (.cells #[.string x1, .string x2] 39 (0, 0)) := by rw [hw2]; exact heap_alloc_new wr _
      obtain ⟨M, hM⟩ : ∃ M, M = wr.heap.size := ⟨_, rfl⟩
      rw [← hM] at r2
      rw [← hw2, ← hM]
      have cm0 : w2.cell? ⟨M, 0, none⟩ = some (.string x1) := by rw [cell_of_row w2 _ _ _ _ _ r2]; rfl
      have K2 := Lib.hid k2
      have hsz := k2.size; have hKs := K.out.size
      clear hw2 hM k2 r2
      go_wp2_with (refine wpList_app_name rfl _ _ rfl _ n2 ls x1 (by rw [hll.out]; exact hn.out) rfl w1.heap.size ((W.out.kept K2.out (fun _ _ h => h)).alloc _) _ rfl (heap_alloc_new w2 _) (by have := hll.out; omega) (by simp; omega) ?_; intro a9 c9 n9 w9 hn9 hW9 hk9; have W9 := Lib.hid hW9; have HN9 := Lib.hid hn9.out; have K9 : Hid (Kept (fun b => w1.heap.size ≤ b) w2 w9) := ((Kept.refl _ w2).alloc _).trans hk9; clear hW9 hk9 hn9)
      go_roundg (29 - (j + 1))
      case measure => omega
      case rel => exact ⟨j + 1, n9, a9, c9, by go_num, rfl, by omega, rfl, by unfold Hid; rw [HN9.out, List.length_append, hll.out]; rfl, by unfold Hid; rw [hsn.out]; exact W9.out, (K.out.step K2.out (fun _ h => h.elim)).trans K9.out⟩
    · obtain rfl : j = 29 := by omega
      have e1 : decide ((29 : Int) < (29 : Int)) = false := rfl
      go_wp2_with fail
      go_ret
      have hn2 := hn.out
      subst hn2
      refine ⟨na, nc, rfl, ?_, K1.out.step K.out (fun y hy => .inr (Nat.le_trans K1.out.size hy))⟩
      have := W.out.mono K1.out.size
      rw [List.take_of_length_le (by rw [List.length_map]; omega), HN.out] at this
      exact this
end Go.Proofs.YtlnhcgihpclpaaaGreatDoor

/- The document's Bare: any pattern. -/
import Derived.Test.YtdnglicgmlldlaaDoorBare2
import Derived.Test.YtdnglicgmlldlaaDoorBare3
import Derived.Test.YtdnglicgmlldlaaDoorBare4
namespace Go.Proofs.YtdnglicgmlldlaaDoor
open Go.RowKit

theorem bare_any : ∀ (m : Nat) (p : PatT) (v : Value) (S : Nat → Prop) (w : World), sizeT p ≤ m → PatV w S v p → Safe S Nix w.heap.size → Calls Tryd.prog 10 #[v] w (BarePost p w) := by
  intro m
  induction m with
  | zero => intro p v S w hm; have := sizeT_pos p; omega
  | succ m ih =>
    intro p v S w hm hp hS
    obtain ⟨k, t, n, nm, kids⟩ := p
    obtain ⟨ka, cap, rfl, hz, hk⟩ := hp
    dsimp only [PatT.kind_mk, PatT.text_mk, PatT.n_mk, PatT.name_mk, PatT.kids_mk] at hz hk ⊢
    have hih : BareIH S kids := fun j hj v w hv hs => ih kids[j] v S w (by have := sizeT_get kids j hj; simp only [sizeT] at hm; omega) hv hs
    by_cases c1 : k = 1
    · exact bare_lit k t n nm kids ka cap S w hk hS hz c1 hih
    by_cases c2 : isTextK k
    · exact bare_text k t n nm kids ka cap S w hk hS hz c2 hih
    by_cases c3 : isNumK k
    · exact bare_num k t n nm kids ka cap S w hk hS hz c3 hih
    by_cases c4 : isNameK k
    · exact bare_name k t n nm kids ka cap S w hk hS hz c4 hih
    · exact bare_none k t n nm kids ka cap S w hk hS hz ⟨c1, c2, c3, c4⟩ hih
end Go.Proofs.YtdnglicgmlldlaaDoor

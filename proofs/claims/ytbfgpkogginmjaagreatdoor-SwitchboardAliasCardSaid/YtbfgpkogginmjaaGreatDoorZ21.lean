/- Parts of a proof about aliases: HG. -/
import Derived.Test.YtbfgpkogginmjaaGreatDoorZ10
import Derived.Test.YtbfgpkogginmjaaGreatDoorZ13
section
namespace Go.Proofs.YtbfgpkogginmjaaGreatDoor
open Go.RowKit Go.Lib Go.Proofs.YtbfgpkogginmjaaGreatDoorW.PrintWords Go.Proofs.YtbfgpkogginmjaaGreatDoor.PSwitchboardGreat
set_option linter.unusedVariables false
set_option linter.unusedSimpArgs false
theorem below_set {B : Nat} {w w' : World} (h : Below B w w') (b i : Nat) (u : Value) (hb : B ≤ b) : Below B w (w'.setCell ⟨b, i, none⟩ u) := h.setCell hb u
theorem info30 : (Tryz.prog.info? 81).map (fun i => (i.zero, i.size, i.bytes)) = some (some .nilIface, 1, 16) := by kernel_rfl
theorem empty_app (s : ByteArray) : (⟨#[]⟩ : ByteArray) ++ s = s := ByteArray.empty_append
theorem own_slice1 {w : World} {base e : Nat} {v : Value} {n : Nat} {zs : List Value} (h : w.ownsRow base e 1 v n zs) : ∃ A c, v = .slice A n c := by
  obtain ⟨_, hq⟩ := h
  rcases hq with ⟨h1, h2⟩ | ⟨g, cap, cur, e1, _⟩
  · exact ⟨none, 0, by rw [h1, h2]⟩
  · exact ⟨_, cap, e1⟩
theorem own_to {w w1 : World} {base e n : Nat} {v : Value} {zs : List Value} (h : w.ownsRow base e 1 v n zs) (hk : ∀ k, v.ownBlock = some k → w1.heap[k]? = w.heap[k]?) : w1.ownsRow base e 1 v n zs := by
  obtain ⟨q, hq⟩ := h
  refine ⟨q, ?_⟩
  rcases hq with hq | ⟨g, cap, cur, e1, e2, e3, e4⟩
  · exact .inl hq
  · exact .inr ⟨g, cap, cur, e1, e2, (hk g (by rw [e1]; rfl)).trans e3, e4⟩
theorem own_not {w : World} {base n g : Nat} {v : Value} {zs : List Value} {most er : Int} {s : ByteArray} (h : w.ownsRow base 81 1 v n zs) (hr : RD w g most s er) : ∀ k, v.ownBlock = some k → k = g → False := by
  rintro k hk rfl
  obtain ⟨cells, hc⟩ := own_typed h k hk
  unfold RD at hr
  rw [hr] at hc
  injection hc with hc
  injection hc with _ h26 _
  exact absurd h26 (by decide)
theorem own_nil0 (w : World) (base e : Nat) : w.ownsRow base e 1 (.slice none 0 0) ([] : List Value).length [] := ⟨rfl, .inl ⟨rfl, rfl⟩⟩
theorem pl_nil (w : World) : PL w none [] := Kd.C_nil k144 w
theorem own_cell0 {w : World} {base : Nat} {A : Option Addr} {c : Nat} {u : Value} (h : w.ownsRow base 81 1 (.slice A 1 c) 1 [u]) : ∃ g, A = some ⟨g, 0, none⟩ ∧ w.cell? ⟨g, 0, none⟩ = some u := by
  obtain ⟨_, hq⟩ := h
  rcases hq with ⟨_, h2⟩ | ⟨g, cap, cur, e1, e2, e3, e4, e5, e6, e7⟩
  · cases h2
  · injection e1 with e1 _ _
    refine ⟨g, e1, (blk_cell e3 0).trans ?_⟩
    rw [← Array.getElem?_toList]
    have := congrArg (fun l : List Value => l[0]?) e7
    simpa [List.getElem?_take] using this
end Go.Proofs.YtbfgpkogginmjaaGreatDoor
end

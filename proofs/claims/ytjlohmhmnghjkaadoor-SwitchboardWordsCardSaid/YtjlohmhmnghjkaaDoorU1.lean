/- octet.Out: its state; Byte, Two, Raw, Text, Data. -/
import Derived.Test.YtjlohmhmnghjkaaDoorTB
import Derived.Lib.ConvBytes
namespace Go.Proofs.YtjlohmhmnghjkaaDoor
open Go.RowKit Go.Lib Go.Proofs.YtjlohmhmnghjkaaDoorW.PrintWords Go.Proofs.YtjlohmhmnghjkaaDoor.PTopicReads
set_option linter.unusedVariables false
set_option linter.unusedSimpArgs false

/-- Bytes gathered at block b. -/
structure OW (w : World) (base b : Nat) (xs : List Int) : Prop where
  st : ∃ A c, w.heap[b]? = some (.cells #[.slice A xs.length c] 26 (0, 0)) ∧ (Kd.int .u8).R 5 w base (fun k => k ≠ b) (.slice A xs.length c) xs
  ob : base ≤ b
section
variable {w w1 : World} {base b : Nat} {xs ys : List Int}
theorem OW.lt (h : OW w base b xs) : b < w.heap.size := by obtain ⟨A, c, h1, _⟩ := h.st; exact blk_lt h1
theorem OW.to (h : OW w base b xs) (hb : Below w.heap.size w w1) : OW w1 base b xs := by
  obtain ⟨A, c, h1, h2⟩ := h.st
  exact ⟨⟨A, c, blk_below h1 hb, Kd.R_below h2 hb⟩, h.ob⟩
theorem own_ne {n : Nat} {v : Value} {zs : List Value} {cs : Array Value} (h : w.ownsRow base 5 1 v n zs) (hb : w.heap[b]? = some (.cells cs 26 (0, 0))) : ∀ k, v.ownBlock = some k → k ≠ b := by
  rintro k hk rfl
  obtain ⟨cells, hc⟩ := own_typed h k hk
  rw [hb] at hc
  injection hc with hc
  injection hc with _ h26 _
  exact absurd h26 (by decide)
theorem OW.put {A : Option Addr} {c m : Nat} {u : Value} (hb : base ≤ b) (h1 : w.heap[b]? = some (.cells #[u] 26 (0, 0))) (h2 : w.ownsRow base 5 1 (.slice A ys.length c) ys.length (nums .u8 ys)) (hm : m = ys.length) : OW (w.setCell ⟨b, 0, none⟩ (.slice A m c)) base b ys := by
  subst hm
  have hr : (Kd.int .u8).R 5 w base (fun k => k ≠ b) (.slice A ys.length c) ys := Kd.R_of_own (enc := Value.int .u8) (h1 := fun _ => rfl) h2 (own_ne h2 h1)
  exact ⟨⟨A, c, blk_put h1 0 _ rfl, Kd.R_far hr (fun k hk => hk) _⟩, hb⟩
theorem slice_own {v : Value} (h : w.ownsRow base 5 1 v ys.length (nums .u8 ys)) : ∃ A c, v = .slice A ys.length c :=
  Kd.R_slice (show (Kd.int .u8).R 5 w base (fun _ => True) v ys from Kd.R_of_own (enc := Value.int .u8) (h1 := fun _ => rfl) h (fun _ _ => trivial))
end
def OPost (w : World) (base b : Nat) (ys : List Int) (e : Ending) (w' : World) : Prop := e = .returned (.pointer (some ⟨b, 0, none⟩)) ∧ OW w' base b ys ∧ Below base w w'
set_option maxHeartbeats 4000000 in
set_option maxRecDepth 1000000 in
theorem obyte_calls {w : World} {base b : Nat} {xs : List Int} (h : OW w base b xs) (hl : xs.length ≤ 1000000) (y : Int) : Calls Tryd.prog 58 #[.pointer (some ⟨b, 0, none⟩), .int .u8 y] w (OPost w base b (xs ++ [y])) := by
  obtain ⟨A, c, h1, h2⟩ := h.st
  have c0 : w.cell? ⟨b, 0, none⟩ = some (.slice A xs.length c) := (blk_cell h1 0).trans rfl
  have H1 := Lib.hid h1
  have H2 := Lib.hid (Kd.own_of_R h2)
  have HB := Lib.hid h.ob
  have HLT := Lib.hid h.lt
  have HL := Lib.hid hl
  clear h h1 h2 hl
  go_enter Tryd.func58, Tryd.ntmps58
  go_wp2_with (first
    | ((with_reducible refine gate_builtin (b := .append) (xs := #[.tmp 9, .tmp 11]) rfl ?_); at_builtin; refine print_append_num (w0 := w) base rfl (.tmp 9) (.tmp 11) 24 5 .u8 1 rfl Tryd.underlying24 info5 (by decide) _ xs y rfl rfl H2.out (Below.refl _ _) (by have := HB.out; have := HLT.out; omega) (by have := HL.out; omega) ?_; intro v1 w2 ho hb hg _; obtain ⟨A1, c1, rfl⟩ := slice_own ho; have HO := Lib.hid ho; have HBW := Lib.hid hb; have hblk := blk_grown H1.out hg (fun e => own_ne H2.out H1.out b e.symm rfl); have HBK := Lib.hid hblk; have d0 : w2.cell? ⟨b, 0, none⟩ = some (.slice A xs.length c) := (blk_cell hblk 0).trans rfl; have f0 := blk_frozen hblk 0; clear ho hb hg hblk))
  go_ret
  exact ⟨rfl, OW.put HB.out HBK.out HO.out (by simp), HBW.out.setCell HB.out _⟩
end Go.Proofs.YtjlohmhmnghjkaaDoor

/- (*alias.Table).Name: its contract. -/
import Derived.Test.YtjlohmhmnghjkaaK
import Derived.StillTailTactics
namespace Go.Proofs.Ytjlohmhmnghjkaa
open Go.RowKit Go.Maps Go.Proofs.YtjlohmhmnghjkaaW.PrintWords Go.Proofs.Ytjlohmhmnghjkaa.PAliasPlays
set_option linter.unusedVariables false
set_option linter.unusedSimpArgs false

theorem drewN_heap (w : World) (n : Nat) : (w.drewN n).heap = w.heap := rfl
/-- The call's own two boxes and the table, as the walk has them behind the first statement. -/
structure NW (w0 W : World) (base g bm most n m : Nat) (F : Nat → Option ByteArray) (pb xb N : Nat) (topic : ByteArray) : Prop where
  pt : PT W base g bm most n m F
  t5 : W.cell? ⟨pb, 5, none⟩ = some (.string topic)
  x1 : W.cell? ⟨xb, 1, none⟩ = some (.int .u32 N)
  below : Below w0.heap.size w0 W
section
variable {w W : World} {base g bm most n m pb xb N : Nat} {F : Nat → Option ByteArray} {topic : ByteArray}
theorem NW.c0 (h : NW w W base g bm most n m F pb xb N topic) : W.cell? ⟨g, 0, none⟩ = some (.map (some bm)) := (blk_cell h.pt.blk 0).trans rfl
theorem NW.c1 (h : NW w W base g bm most n m F pb xb N topic) : W.cell? ⟨g, 1, none⟩ = some (.int .u32 most) := (blk_cell h.pt.blk 1).trans rfl
theorem NW.to {W1 : World} (h : NW w W base g bm most n m F pb xb N topic) (hb : Below W.heap.size W W1) : NW w W1 base g bm most n m F pb xb N topic :=
  ⟨h.pt.below hb, (hb.cell (World.block_lt_of_cell? W _ h.t5)).trans h.t5, (hb.cell (World.block_lt_of_cell? W _ h.x1)).trans h.x1, h.below.trans (hb.mono h.below.size)⟩
theorem nw_init (h : PT w base g bm most n m F) {w1 : World} (cs : Array Value) (hc : cs[5]? = some (.string topic)) (x0 x2 x3 : Value) (hb : Below (w.heap.size + 1) (w.alloc (.cells cs 36)) w1) :
    NW w (w1.alloc (.cells #[x0, .int .u32 N, x2, x3] 61)) base g bm most n m F w.heap.size w1.heap.size N topic := by
  have e1 := heap_alloc_new w (.cells cs 36)
  have e2 := heap_alloc_new w1 (.cells #[x0, .int .u32 N, x2, x3] 61)
  have hb' : Below (w.alloc (.cells cs 36)).heap.size (w.alloc (.cells cs 36)) w1 := by rw [World.size_alloc]; exact hb
  have hb0 : Below w.heap.size w w1 := ((Below.refl w.heap.size w).alloc (Nat.le_refl _) _).trans (hb.mono (Nat.le_succ _))
  have hbb : Below w1.heap.size w1 (w1.alloc (.cells #[x0, .int .u32 N, x2, x3] 61)) := (Below.refl _ _).alloc (Nat.le_refl _) _
  have hp : w1.cell? ⟨w.heap.size, 5, none⟩ = some (.string topic) := by
    have e3 := (hb'.block w.heap.size (by rw [World.size_alloc]; omega)).trans e1
    exact (blk_cell e3 5).trans hc
  exact ⟨(h.below hb0).below hbb, (hbb.cell (World.block_lt_of_cell? w1 _ hp)).trans hp, (blk_cell e2 1).trans rfl, hb0.trans (hbb.mono hb0.size)⟩
end
end Go.Proofs.Ytjlohmhmnghjkaa

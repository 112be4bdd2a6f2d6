/- the frames of a subscribe and an unsubscribe; Sub.Options. -/
import Derived.Test.YtljbchghbpmghaaGreatDoorS22
namespace Go.Proofs.YtljbchghbpmghaaGreatDoor
open Go.RowKit Go.Lib Go.Proofs.YtljbchghbpmghaaGreatDoorW.PrintWords Go.Proofs.YtljbchghbpmghaaGreatDoor.PSwitchboardGreat
set_option linter.unusedVariables false
set_option linter.unusedSimpArgs false
set_option maxHeartbeats 4000000 in
set_option maxRecDepth 1000000 in
theorem suframe {w : World} {id n c n2 c2 : Nat} {A A2 : Option Addr} {B : ByteArray} (HT : Hid (∀ W, Below w.heap.size w W → Calls Tryz.prog 121 #[.agg #[.int .u32 (id : Nat), .slice A n c, .slice A2 n2 c2]] W fun e w' => e = .returned (.string B) ∧ Below W.heap.size W w')) : Calls Tryz.prog 122 #[.agg #[.int .u32 (id : Nat), .slice A n c, .slice A2 n2 c2]] w (FrPost w 8 2 B) := by
  have HX := Lib.hid (show ((w.alloc (.cells #[.int .u32 (id : Nat), .slice A n c, .slice A2 n2 c2] 128)).alloc (.cells #[.int .i64 0, .int .i64 0, .string ⟨#[]⟩] 36)).heap[w.heap.size]? = some (.cells #[.int .u32 (id : Nat), .slice A n c, .slice A2 n2 c2] 128 (0, 0)) from blk_alloc (heap_alloc_new w _) _)
  have HB := Lib.hid (show Below w.heap.size w ((w.alloc (.cells #[.int .u32 (id : Nat), .slice A n c, .slice A2 n2 c2] 128)).alloc (.cells #[.int .i64 0, .int .i64 0, .string ⟨#[]⟩] 36)) from ((Below.refl _ _).alloc (Nat.le_refl _) _).alloc (by rw [World.size_alloc]; omega) _)
  have HR := Lib.hid (show ((w.alloc (.cells #[.int .u32 (id : Nat), .slice A n c, .slice A2 n2 c2] 128)).alloc (.cells #[.int .i64 0, .int .i64 0, .string ⟨#[]⟩] 36)).heap[w.heap.size + 1]? = some (.cells #[.int .i64 0, .int .i64 0, .string ⟨#[]⟩] 36 (0, 0)) by
    have := heap_alloc_new (w.alloc (.cells #[.int .u32 (id : Nat), .slice A n c, .slice A2 n2 c2] 128)) (.cells #[.int .i64 0, .int .i64 0, .string ⟨#[]⟩] 36)
    rw [World.size_alloc] at this
    exact this)
  go_enter Tryz.func122, Tryz.ntmps122
  go_upto_region 1 with fail
  generalize ((w.alloc (.cells #[.int .u32 (id : Nat), .slice A n c, .slice A2 n2 c2] 128)).alloc (.cells #[.int .i64 0, .int .i64 0, .string ⟨#[]⟩] 36)) = W0 at HX HB HR ⊢
  obtain ⟨x0, x1, x2⟩ := frcell HX.out
  go_wp2_with (first
    | (go_at_call 121; (with_reducible refine (HT.out _ HB.out).mono ?_); rintro e w2 ⟨rfl, hb⟩; have HR2 := Lib.hid (hb.block _ (blk_lt HR.out) |>.trans HR.out); have HB2 := Lib.hid (HB.out.trans (hb.mono HB.out.size)); obtain ⟨r0, r1, r2⟩ := frcell HR2.out; have f0 := blk_frozen HR2.out 0; have f1 := blk_frozen HR2.out 1; have f2 := blk_frozen HR2.out 2; clear hb))
  refine bodyPost_ret (v := fr 8 2 B) (by unfold fr; simp [results, Tryz.results122, go_sem, r0, r1, r2]) rfl ⟨rfl, ?_⟩
  exact ((HB2.out.setCell (by simp; done) _).setCell (by simp; done) _).setCell (by simp; done) _
set_option maxHeartbeats 4000000 in
set_option maxRecDepth 1000000 in
theorem unframe {w : World} {id n c n2 c2 : Nat} {A A2 : Option Addr} {B : ByteArray} (HT : Hid (∀ W, Below w.heap.size w W → Calls Tryz.prog 125 #[.agg #[.int .u32 (id : Nat), .slice A n c, .slice A2 n2 c2]] W fun e w' => e = .returned (.string B) ∧ Below W.heap.size W w')) : Calls Tryz.prog 126 #[.agg #[.int .u32 (id : Nat), .slice A n c, .slice A2 n2 c2]] w (FrPost w 10 2 B) := by
  have HX := Lib.hid (show ((w.alloc (.cells #[.int .u32 (id : Nat), .slice A n c, .slice A2 n2 c2] 134)).alloc (.cells #[.int .i64 0, .int .i64 0, .string ⟨#[]⟩] 36)).heap[w.heap.size]? = some (.cells #[.int .u32 (id : Nat), .slice A n c, .slice A2 n2 c2] 134 (0, 0)) from blk_alloc (heap_alloc_new w _) _)
  have HB := Lib.hid (show Below w.heap.size w ((w.alloc (.cells #[.int .u32 (id : Nat), .slice A n c, .slice A2 n2 c2] 134)).alloc (.cells #[.int .i64 0, .int .i64 0, .string ⟨#[]⟩] 36)) from ((Below.refl _ _).alloc (Nat.le_refl _) _).alloc (by rw [World.size_alloc]; omega) _)
  have HR := Lib.hid (show ((w.alloc (.cells #[.int .u32 (id : Nat), .slice A n c, .slice A2 n2 c2] 134)).alloc (.cells #[.int .i64 0, .int .i64 0, .string ⟨#[]⟩] 36)).heap[w.heap.size + 1]? = some (.cells #[.int .i64 0, .int .i64 0, .string ⟨#[]⟩] 36 (0, 0)) by
    have := heap_alloc_new (w.alloc (.cells #[.int .u32 (id : Nat), .slice A n c, .slice A2 n2 c2] 134)) (.cells #[.int .i64 0, .int .i64 0, .string ⟨#[]⟩] 36)
    rw [World.size_alloc] at this
    exact this)
  go_enter Tryz.func126, Tryz.ntmps126
  go_upto_region 1 with fail
  generalize ((w.alloc (.cells #[.int .u32 (id : Nat), .slice A n c, .slice A2 n2 c2] 134)).alloc (.cells #[.int .i64 0, .int .i64 0, .string ⟨#[]⟩] 36)) = W0 at HX HB HR ⊢
  obtain ⟨x0, x1, x2⟩ := frcell HX.out
  go_wp2_with (first
    | (go_at_call 125; (with_reducible refine (HT.out _ HB.out).mono ?_); rintro e w2 ⟨rfl, hb⟩; have HR2 := Lib.hid (hb.block _ (blk_lt HR.out) |>.trans HR.out); have HB2 := Lib.hid (HB.out.trans (hb.mono HB.out.size)); obtain ⟨r0, r1, r2⟩ := frcell HR2.out; have f0 := blk_frozen HR2.out 0; have f1 := blk_frozen HR2.out 1; have f2 := blk_frozen HR2.out 2; clear hb))
  refine bodyPost_ret (v := fr 10 2 B) (by unfold fr; simp [results, Tryz.results126, go_sem, r0, r1, r2]) rfl ⟨rfl, ?_⟩
  exact ((HB2.out.setCell (by simp; done) _).setCell (by simp; done) _).setCell (by simp; done) _
def opU (q : Nat) (nl ap : Bool) (h : Nat) : Nat := q + (if nl then 4 else 0) + (if ap then 8 else 0) + h * 16
theorem opU_lt (q : Nat) (nl ap : Bool) (h : Nat) (hq : q < 4) (hh : h < 4) : opU q nl ap h < 256 := by
  unfold opU
  cases nl <;> cases ap <;> simp <;> omega
theorem opbits (q h : Nat) (hq : q < 4) (hh : h < 4) : Go.bits .or .u8 (q : Int) ((h : Int) * 16 % 256) = ((q + h * 16 : Nat) : Int) ∧ Go.bits .or .u8 ((q + h * 16 : Nat) : Int) 4 = ((q + 4 + h * 16 : Nat) : Int) ∧ Go.bits .or .u8 ((q + h * 16 : Nat) : Int) 8 = ((q + 8 + h * 16 : Nat) : Int) ∧ Go.bits .or .u8 ((q + 4 + h * 16 : Nat) : Int) 8 = ((q + 4 + 8 + h * 16 : Nat) : Int) := by
  have H : ∀ (q h : Fin 4), Go.bits .or .u8 ((q.1 : Nat) : Int) (((h.1 : Nat) : Int) * 16 % 256) = ((q.1 + h.1 * 16 : Nat) : Int) ∧ Go.bits .or .u8 ((q.1 + h.1 * 16 : Nat) : Int) 4 = ((q.1 + 4 + h.1 * 16 : Nat) : Int) ∧ Go.bits .or .u8 ((q.1 + h.1 * 16 : Nat) : Int) 8 = ((q.1 + 8 + h.1 * 16 : Nat) : Int) ∧ Go.bits .or .u8 ((q.1 + 4 + h.1 * 16 : Nat) : Int) 8 = ((q.1 + 4 + 8 + h.1 * 16 : Nat) : Int) := by decide +kernel
  exact H ⟨q, hq⟩ ⟨h, hh⟩
set_option maxHeartbeats 4000000 in
set_option maxRecDepth 1000000 in
theorem options_calls {w : World} {s : ByteArray} {q h : Nat} {nl ap : Bool} (hq : q < 4) (hh : h < 4) : Calls Tryz.prog 124 #[.agg #[.string s, .int .u8 (q : Nat), .bool nl, .bool ap, .int .u8 (h : Nat)]] w fun e w' => e = .returned (.int .u8 (opU q nl ap h : Nat)) ∧ Below w.heap.size w w' := by
  have HX := Lib.hid (heap_alloc_new w (.cells #[.string s, .int .u8 (q : Nat), .bool nl, .bool ap, .int .u8 (h : Nat)] 155))
  have HB := Lib.hid (show Below w.heap.size w (w.alloc (.cells #[.string s, .int .u8 (q : Nat), .bool nl, .bool ap, .int .u8 (h : Nat)] 155)) from (Below.refl _ _).alloc (Nat.le_refl _) _)
  have HQ := Lib.hid hq
  have HH := Lib.hid hh
  have hb1 := (opbits q h hq hh).1
  have HB2 := Lib.hid (opbits q h hq hh).2
  have hq3 := (fl_bits q hq).1
  have hh3 := (fl_bits h hh).1
  clear hq hh
  go_enter Tryz.func124, Tryz.ntmps124
  go_upto_region 1 with (fail)
  generalize (w.alloc (.cells #[.string s, .int .u8 (q : Nat), .bool nl, .bool ap, .int .u8 (h : Nat)] 155)) = W0 at HX HB ⊢
  obtain ⟨x0, x1, x2, x3, x4⟩ := rcell HX.out
  go_upto_region 2 with (fail)
  rw [show ((q : Int) + (h : Int) * 16) = ((q + h * 16 : Nat) : Int) by push_cast; rfl]
  obtain ⟨z, hz⟩ : ∃ z, z = q + h * 16 := ⟨_, rfl⟩
  obtain ⟨z4, hz4⟩ : ∃ z, z = q + 4 + h * 16 := ⟨_, rfl⟩
  obtain ⟨z8, hz8⟩ : ∃ z, z = q + 8 + h * 16 := ⟨_, rfl⟩
  obtain ⟨z48, hz48⟩ : ∃ z, z = q + 4 + 8 + h * 16 := ⟨_, rfl⟩
  obtain ⟨b4, b8, b48⟩ := HB2.out
  rw [← hz, ← hz4] at b4
  rw [← hz, ← hz8] at b8
  rw [← hz4, ← hz48] at b48
  rw [← hz]
  have HZ := Lib.hid hz
  have HZ4 := Lib.hid hz4
  have HZ8 := Lib.hid hz8
  have HZ48 := Lib.hid hz48
  clear hz hz4 hz8 hz48 hb1 hq3 hh3 HB2
  cases nl <;> cases ap
  · have HF := Lib.hid (show opU q false false h = z by rw [HZ.out]; simp [opU])
    go_wp2
    go_ret
    exact ⟨by first | rfl | (rw [HF.out]; rfl), HB.out⟩
  · have HF := Lib.hid (show opU q false true h = z8 by rw [HZ8.out]; simp [opU])
    go_wp2
    go_ret
    exact ⟨by first | rfl | (rw [HF.out]; rfl), HB.out⟩
  · have HF := Lib.hid (show opU q true false h = z4 by rw [HZ4.out]; simp [opU])
    go_wp2
    go_ret
    exact ⟨by first | rfl | (rw [HF.out]; rfl), HB.out⟩
  · have HF := Lib.hid (show opU q true true h = z48 by rw [HZ48.out]; simp [opU])
    go_wp2
    go_ret
    exact ⟨by first | rfl | (rw [HF.out]; rfl), HB.out⟩
end Go.Proofs.YtljbchghbpmghaaGreatDoor

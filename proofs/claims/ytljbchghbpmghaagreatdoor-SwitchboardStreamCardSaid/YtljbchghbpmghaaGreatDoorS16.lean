/- connect's flags. -/
import Derived.Test.YtljbchghbpmghaaGreatDoorS15
namespace Go.Proofs.YtljbchghbpmghaaGreatDoor
open Go.RowKit Go.Lib Go.Proofs.YtljbchghbpmghaaGreatDoorW.PrintWords Go.Proofs.YtljbchghbpmghaaGreatDoor.PSwitchboardGreat
set_option linter.unusedVariables false
set_option linter.unusedSimpArgs false
def flU (cl hw hu hp rt : Bool) (q : Nat) : Nat := (if cl then 2 else 0) + (if hw then 4 else 0) + (if hp then 64 else 0) + (if hu then 128 else 0) + (if hw then q * 8 + (if rt then 32 else 0) else 0)
theorem flU_lt (cl hw hu hp rt : Bool) (q : Nat) (h : q < 4) : flU cl hw hu hp rt q < 256 := by
  unfold flU
  cases cl <;> cases hw <;> cases hu <;> cases hp <;> cases rt <;> simp <;> omega
set_option maxHeartbeats 4000000 in
set_option maxRecDepth 1000000 in
theorem coflags_calls {w : World} {cl hw hu hp rt : Bool} {kp n c n' c' q : Nat} {A A' : Option Addr} {s3 s6 s7 s12 s13 : ByteArray} (hq : q < 4) : Calls Tryz.prog 113 #[.agg #[.bool cl, .int .u32 (kp : Nat), .slice A n c, .string s3, .bool hw, .slice A' n' c', .string s6, .string s7, .int .u8 (q : Nat), .bool rt, .bool hu, .bool hp, .string s12, .string s13]] w fun e w' => e = .returned (.int .u8 (flU cl hw hu hp rt q : Nat)) ∧ Below w.heap.size w w' := by
  have HX := Lib.hid (heap_alloc_new w (.cells #[.bool cl, .int .u32 (kp : Nat), .slice A n c, .string s3, .bool hw, .slice A' n' c', .string s6, .string s7, .int .u8 (q : Nat), .bool rt, .bool hu, .bool hp, .string s12, .string s13] 85))
  have HB := Lib.hid (show Below w.heap.size w (w.alloc (.cells #[.bool cl, .int .u32 (kp : Nat), .slice A n c, .string s3, .bool hw, .slice A' n' c', .string s6, .string s7, .int .u8 (q : Nat), .bool rt, .bool hu, .bool hp, .string s12, .string s13] 85)) from (Below.refl _ _).alloc (Nat.le_refl _) _)
  have HB2 := Lib.hid (fun W => bit_calls cl 2 W)
  have HB4 := Lib.hid (fun W => bit_calls hw 4 W)
  have HB64 := Lib.hid (fun W => bit_calls hp 64 W)
  have HB128 := Lib.hid (fun W => bit_calls hu 128 W)
  have HB32 := Lib.hid (fun W => bit_calls rt 32 W)
  rw [show ((2 : Nat) : Int) = 2 from rfl] at HB2
  rw [show ((4 : Nat) : Int) = 4 from rfl] at HB4
  rw [show ((64 : Nat) : Int) = 64 from rfl] at HB64
  rw [show ((128 : Nat) : Int) = 128 from rfl] at HB128
  rw [show ((32 : Nat) : Int) = 32 from rfl] at HB32
  have HFL := Lib.hid (show flU cl hw hu hp rt q = (if cl then 2 else 0) + (if hw then 4 else 0) + (if hp then 64 else 0) + (if hu then 128 else 0) + (if hw then q * 8 + (if rt then 32 else 0) else 0) from rfl)
  obtain ⟨y1, hy1⟩ : ∃ y, y = (if cl then 2 else 0 : Nat) := ⟨_, rfl⟩
  obtain ⟨y2, hy2⟩ : ∃ y, y = (if hw then 4 else 0 : Nat) := ⟨_, rfl⟩
  obtain ⟨y3, hy3⟩ : ∃ y, y = (if hp then 64 else 0 : Nat) := ⟨_, rfl⟩
  obtain ⟨y4, hy4⟩ : ∃ y, y = (if hu then 128 else 0 : Nat) := ⟨_, rfl⟩
  obtain ⟨y5, hy5⟩ : ∃ y, y = (if rt then 32 else 0 : Nat) := ⟨_, rfl⟩
  rw [← hy1] at HB2
  rw [← hy2] at HB4
  rw [← hy3] at HB64
  rw [← hy4] at HB128
  rw [← hy5] at HB32
  have HY1 := Lib.hid hy1
  have HY2 := Lib.hid hy2
  have HY3 := Lib.hid hy3
  have HY4 := Lib.hid hy4
  have HY5 := Lib.hid hy5
  have HQ := Lib.hid hq
  generalize flU cl hw hu hp rt q = F at HFL ⊢
  clear hy1 hy2 hy3 hy4 hy5 hq
  go_enter Tryz.func113, Tryz.ntmps113
  go_upto_region 1 with (fail)
  generalize (w.alloc (.cells #[.bool cl, .int .u32 (kp : Nat), .slice A n c, .string s3, .bool hw, .slice A' n' c', .string s6, .string s7, .int .u8 (q : Nat), .bool rt, .bool hu, .bool hp, .string s12, .string s13] 85)) = W0 at HX HB ⊢
  obtain ⟨x0, x1, x2, x3, x4, x5, x6, x7, x8, x9, x10, x11, x12, x13⟩ := ncell HX.out
  go_quiet (first
    | (go_at_call 114; exact Calls.quiet_of_same (HB2.out _))
    | (go_at_call 114; exact Calls.quiet_of_same (HB4.out _))
    | (go_at_call 114; exact Calls.quiet_of_same (HB64.out _))
    | (go_at_call 114; exact Calls.quiet_of_same (HB128.out _)))
  rename_i nq
  obtain ⟨z, hz, hzq⟩ : ∃ z : Nat, z = y1 + y2 + y3 + y4 ∧ Go.bits .or .u8 (Go.bits .or .u8 (Go.bits .or .u8 (y1 : Nat) (y2 : Nat)) (y3 : Nat)) (y4 : Nat) = (z : Nat) := by
    refine ⟨_, rfl, ?_⟩
    rw [HY1.out, HY2.out, HY3.out, HY4.out]
    cases cl <;> cases hw <;> cases hp <;> cases hu <;> decide +kernel
  have HZ := Lib.hid hz
  rw [hzq]
  clear hz hzq x0 x1 x2 x3 x4 x5 x6 x7 x8 x9 x10 x11 x12 x13
  have HX1 := Lib.hid (show (W0.drewN nq).heap[w.heap.size]? = some (.cells #[.bool cl, .int .u32 (kp : Nat), .slice A n c, .string s3, .bool hw, .slice A' n' c', .string s6, .string s7, .int .u8 (q : Nat), .bool rt, .bool hu, .bool hp, .string s12, .string s13] 85 (0, 0)) from HX.out)
  have HB1 := Lib.hid (show Below w.heap.size w (W0.drewN nq) from ⟨HB.out.os, HB.out.tape, HB.out.output, HB.out.size, HB.out.block⟩)
  clear HX HB
  generalize W0.drewN nq = W1 at HX1 HB1 ⊢
  obtain ⟨x0, x1, x2, x3, x4, x5, x6, x7, x8, x9, x10, x11, x12, x13⟩ := ncell HX1.out
  cases hw with
  | false =>
    have HF2 := Lib.hid (show F = z by rw [HFL.out, HZ.out, HY1.out, HY2.out, HY3.out, HY4.out]; simp)
    go_wp2
    go_ret
    exact ⟨by rw [HF2.out]; rfl, HB1.out⟩
  | true =>
    have hq3 := (fl_bits q HQ.out).1
    go_upto_region 3 with (fail)
    go_quiet (first
      | (go_at_call 114; exact Calls.quiet_of_same (HB32.out _)))
    have hfin : Go.bits .or .u8 (z : Nat) (Go.bits .or .u8 (((q : Nat) : Int) * 8 % 256) (y5 : Nat)) = (F : Nat) := by
      rw [HFL.out, HZ.out, HY1.out, HY2.out, HY3.out, HY4.out, HY5.out]
      have hq4 := HQ.out
      rcases (show q = 0 ∨ q = 1 ∨ q = 2 ∨ q = 3 by omega) with rfl | rfl | rfl | rfl <;> cases cl <;> cases hp <;> cases hu <;> cases rt <;> decide +kernel
    rw [hfin]
    have HB2 := Lib.hid (show ∀ m, Below w.heap.size w (W1.drewN m) from fun m => ⟨HB1.out.os, HB1.out.tape, HB1.out.output, HB1.out.size, HB1.out.block⟩)
    go_wp2
    go_ret
    exact ⟨rfl, HB2.out _⟩
end Go.Proofs.YtljbchghbpmghaaGreatDoor

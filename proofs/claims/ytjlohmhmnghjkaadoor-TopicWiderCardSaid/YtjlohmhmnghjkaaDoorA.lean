/- strings.ContainsAny(s, "+#") at whatever s. -/
import Derived.Test.YtjlohmhmnghjkaaDoorShelf
import Derived.Test.YtjlohmhmnghjkaaDoorProg
import Derived.Lib.Hide
import Derived.Below
import Derived.Deep.LoopGhost
import Derived.Laws.RangeString
import Derived.Lib.IndexBytes
import Derived.Outline
import Derived.WalkMore
import Derived.Deep.QuietTactic
import Derived.BigQuiet
namespace Go.Proofs.YtjlohmhmnghjkaaDoor
open Go.RowKit Go.Lib
set_option linter.unusedVariables false

theorem below_alloc {n : Nat} {w w1 : World} (h : Below n w w1) (hn : n ≤ w1.heap.size) (o : Obj) : Below n w (w1.alloc o) := h.alloc hn o

theorem below_drewN {B : Nat} {w W : World} (h : Below B w W) (n : Nat) : Below B w (W.drewN n) := ⟨h.os, h.tape, h.output, h.size, h.block⟩

set_option maxHeartbeats 2000000 in
set_option maxRecDepth 1000000 in
theorem indexRune_err (w : World) :
    Calls Tryd.prog 79 #[.string ⟨#[43, 35]⟩, .int .i32 65533] w fun e w' => e = .returned (.int .i64 (-1)) ∧ Below w.heap.size w w' := by
  go_enter Tryd.func79, Tryd.ntmps79
  go_wp2_with fail
  go_loopg [5, 6] 2 (fun g _ _ wx => ∃ i : Nat, i + g = 2 ∧ wx = w.iter ⟨#[43, 35]⟩ i)
  case atStart => exact ⟨0, by omega, rfl⟩
  case round =>
    obtain ⟨i, hig, rfl⟩ := hrel
    cases gk with
    | zero =>
      obtain rfl : i = 2 := by omega
      have hnx := fun ty => run_next_end (P := Tryd.prog) w ⟨#[43, 35]⟩ 2 ty (by decide)
      go_wp2
      go_ret
      exact ⟨rfl, below_alloc (Below.refl _ _) (Nat.le_refl _) _⟩
    | succ g =>
      have h01 : i = 0 ∨ i = 1 := by omega
      rcases h01 with rfl | rfl
      · have hnx := fun ty => run_next_ascii (P := Tryd.prog) w ⟨#[43, 35]⟩ 0 ty (by decide) (by decide)
        simp only [show ((⟨#[43, 35]⟩ : ByteArray)[0]'(by decide)).toNat = 43 from rfl] at hnx
        go_wp2
        go_roundg g
        case measure => omega
        case rel => exact ⟨1, by omega, rfl⟩
      · have hnx := fun ty => run_next_ascii (P := Tryd.prog) w ⟨#[43, 35]⟩ 1 ty (by decide) (by decide)
        simp only [show ((⟨#[43, 35]⟩ : ByteArray)[1]'(by decide)).toNat = 35 from rfl] at hnx
        go_wp2
        go_roundg g
        case measure => omega
        case rel => exact ⟨2, by omega, rfl⟩

theorem encode_of {r : Int} (h0 : 128 ≤ r) (hv : Lib.validRune r = true) : ∃ a b, Utf8.encode r = ⟨#[a, b]⟩ ∧ 128 ≤ b.toNat ∨ ∃ c, Utf8.encode r = ⟨#[a, b, c]⟩ ∨ ∃ d, Utf8.encode r = ⟨#[a, b, c, d]⟩ := by
  have hv' : Utf8.valid r = true := by
    unfold Lib.validRune at hv
    have := of_decide_eq_true hv
    unfold Utf8.valid
    simp only [Bool.or_eq_true, Bool.and_eq_true, decide_eq_true_eq]
    omega
  unfold Utf8.encode
  simp only [hv', if_true]
  by_cases h1 : r.toNat < 128
  · omega
  by_cases h2 : r.toNat < 2048
  · rw [if_neg h1, if_pos h2]
    refine ⟨_, _, .inl ⟨rfl, ?_⟩⟩
    simp only [UInt8.toNat_ofNat']
    omega
  by_cases h3 : r.toNat < 65536
  · rw [if_neg h1, if_neg h2, if_pos h3]
    exact ⟨_, _, .inr ⟨_, .inl rfl⟩⟩
  · rw [if_neg h1, if_neg h2, if_neg h3]
    exact ⟨_, _, .inr ⟨_, .inr ⟨_, rfl⟩⟩⟩

theorem indexByte_none (s : ByteArray) (c : Int) (w : World) (hs : s.size = 0) : Calls Tryd.prog 92 #[.string s, .int .u8 c] w fun e w' => e = .returned (.int .i64 (-1)) ∧ w' = w := by
  have h := Tryd.strings_IndexByte s c w
  have e : s.data.toList = [] := List.length_eq_zero_iff.1 (by rw [← Lib.size_eq]; exact hs)
  rw [e] at h
  exact h

theorem indexByte_emp (c : Int) (w : World) : Calls Tryd.prog 92 #[.string ByteArray.empty, .int .u8 c] w fun e w' => e = .returned (.int .i64 (-1)) ∧ w' = w := indexByte_none _ _ _ rfl

set_option maxHeartbeats 2000000 in
set_option maxRecDepth 1000000 in
theorem indexRune_far (w : World) (r : Int) (h0 : 128 ≤ r) (hne : r ≠ 65533) :
    Calls Tryd.prog 79 #[.string ⟨#[43, 35]⟩, .int .i32 r] w fun e w' => e = .returned (.int .i64 (-1)) ∧ Below w.heap.size w w' := by
  have hb := Lib.hid (Below.refl w.heap.size w)
  have hne' : (r == 65533) = false := beq_eq_false_iff_ne.2 hne
  have h128 : ¬ r < 128 := by omega
  have hpos : 0 ≤ r := by omega
  clear hne
  rcases hv : Lib.validRune r
  · go_enter Tryd.func79, Tryd.ntmps79
    go_wp2_with (go_at_call 93; refine (Tryd.utf8_ValidRune _ _).mono ?_; rintro e w' ⟨rfl, hw⟩; rw [hw, hv])
    go_ret
    exact ⟨rfl, hb.out⟩
  · obtain ⟨a, b, hab⟩ := encode_of h0 hv
    rcases hab with ⟨hab, hbn⟩ | ⟨c, hab | ⟨d, hab⟩⟩
    · have hbb : ((35 : Int) == (b.toNat : Int)) = false := beq_eq_false_iff_ne.2 (by omega)
      have hcmp : (((({ data := #[43, 35] } : ByteArray)[1]'(Nat.lt_succ_self 1)).toNat : Int) != ((({ data := #[a, b] } : ByteArray)[1]'(Nat.lt_succ_self 1)).toNat : Int)) = true := by
        show ((35 : Int) != (b.toNat : Int)) = true
        simp only [bne, hbb, Bool.not_false]
      go_enter Tryd.func79, Tryd.ntmps79
      go_wp2_with (first | (go_at_call 93; refine (Tryd.utf8_ValidRune _ _).mono ?_; rintro e w' ⟨rfl, hw⟩; rw [hw, hv]))
      go_step3
      go_wp2
      go_loopg [9] 0 (fun g i wx => i = .int .i64 1 ∧ wx = w)
      case atStart => exact ⟨rfl, rfl⟩
      case round =>
        obtain ⟨rfl, rfl⟩ := hrel
        have hwr : IntKind.i64.wrap 2 = 2 := by decide
        go_wp2
        go_step3
        go_wp2
        go_quiet (fail)
        have hb6 := Lib.hid (below_drewN hb.out nq)
        generalize wr.drewN nq = W6 at hb6 ⊢
        clear hb
        go_wp2
        go_quiet ((go_at_call 92; exact Calls.quiet_of_same (indexByte_emp _ _)))
        go_wp2
        rw [Exit.noGoto_ret]
        go_wp2
        rw [Exit.noGoto_ret]
        go_ret
        exact ⟨rfl, below_drewN hb6.out _⟩
    · go_enter Tryd.func79, Tryd.ntmps79
      go_wp2_with (first | (go_at_call 93; refine (Tryd.utf8_ValidRune _ _).mono ?_; rintro e w' ⟨rfl, hw⟩; rw [hw, hv]))
      go_step3
      go_wp2
      go_loopg [9] 0 (fun g i wx => i = .int .i64 2 ∧ wx = w)
      case atStart => exact ⟨rfl, rfl⟩
      case round =>
        obtain ⟨rfl, rfl⟩ := hrel
        go_wp2
        rw [Exit.noGoto_ret]
        go_ret
        exact ⟨rfl, hb.out⟩
    · go_enter Tryd.func79, Tryd.ntmps79
      go_wp2_with (first | (go_at_call 93; refine (Tryd.utf8_ValidRune _ _).mono ?_; rintro e w' ⟨rfl, hw⟩; rw [hw, hv]))
      go_step3
      go_wp2
      go_loopg [9] 0 (fun g i wx => i = .int .i64 3 ∧ wx = w)
      case atStart => exact ⟨rfl, rfl⟩
      case round =>
        obtain ⟨rfl, rfl⟩ := hrel
        go_wp2
        rw [Exit.noGoto_ret]
        go_ret
        exact ⟨rfl, hb.out⟩
end Go.Proofs.YtjlohmhmnghjkaaDoor

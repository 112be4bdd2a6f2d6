/- (*alias.Table).Name: its contract. -/
import Derived.Test.YtjlohmhmnghjkaaN1
namespace Go.Proofs.Ytjlohmhmnghjkaa
open Go.RowKit Go.Maps Go.Proofs.YtjlohmhmnghjkaaW.PrintWords Go.Proofs.Ytjlohmhmnghjkaa.PAliasPlays
set_option linter.unusedVariables false
set_option linter.unusedSimpArgs false

section
variable {w : World} {base g bm most n m : Nat} {F : Nat → Option ByteArray}
set_option maxHeartbeats 4000000 in
set_option maxRecDepth 100000 in
/-- An alias that may not be. -/
theorem tname_alias (h : PT w base g bm most n m F) {A : Option Addr} {c k : Nat} {l : List S61} (hl : Kd.C k61 w A l.length l) (hlc : l.length ≤ c) {r1 : Int} {N : Nat} {r3 r4 : ByteArray} (hget : prop_List_Get.f k l 35 = some (r1, (N : Int), r3, r4, true))
    (topic pay : ByteArray) (hbad : N = 0 ∨ most < N) :
    Calls Try.prog 11 #[.pointer (some ⟨g, 0, none⟩), .agg #[.bool false, .bool false, .int .u8 0, .int .u32 0, .slice A l.length c, .string topic, .string pay]] w (AddsPost w ⟨#[]⟩ 11) := by
  have hu36 := Try.underlying36
  have hu61 := Try.underlying61
  have HP := Lib.hid h
  have HL := Lib.hid hl
  have HG := Lib.hid hget
  clear h hl hget
  have hN : ((N : Int) == 0) = decide (N = 0) := by
    by_cases e : N = 0
    · subst e; rfl
    · rw [decide_eq_false e]; exact beq_eq_false_iff_ne.2 (by omega)
  go_enter Try.func11, Try.ntmps11
  go_wp2_with (go_at_call 18; refine (prop_List_Get.calls k A c l 35 _ _ _ _ _ _ (Kd.C_below HL.out ((Below.refl _ _).alloc (Nat.le_refl _) _)) hlc HG.out).mono ?_; rintro e w1 ⟨rfl, hb1⟩; have HB1 := Lib.hid hb1; clear hb1)
  have HN := Lib.hid (nw_init (N := N) (topic := topic) HP.out #[.bool false, .bool false, .int .u8 0, .int .u32 0, .slice A l.length c, .string topic, .string pay] rfl (.int .i64 r1) (.string r3) (.string r4) (by have := HB1.out; rw [World.size_alloc] at this; exact this))
  generalize w1.alloc (.cells #[.int .i64 r1, .int .u32 N, .string r3, .string r4] 61) = W at HN ⊢
  have c1 := HN.out.c1
  have x1 := HN.out.x1
  rcases hbad with rfl | hbad
  · go_quiet (fail)
    go_wp2
    go_ret2
    exact ⟨rfl, pw_below_drewN HN.out.below _⟩
  · by_cases h0 : N = 0
    · subst h0
      go_quiet (fail)
      go_wp2
      go_ret2
      exact ⟨rfl, pw_below_drewN HN.out.below _⟩
    · have hN2 : ((N : Int) == 0) = false := beq_eq_false_iff_ne.2 (by omega)
      have hgt : decide ((most : Int) < (N : Int)) = true := decide_eq_true (by omega)
      go_quiet (fail)
      go_wp2
      go_ret2
      exact ⟨rfl, pw_below_drewN HN.out.below _⟩
end
end Go.Proofs.Ytjlohmhmnghjkaa

/- (*alias.Table).Name: no topic. -/
import Derived.Test.YtjlohmhmnghjkaaL
namespace Go.Proofs.Ytjlohmhmnghjkaa
open Go.RowKit Go.Maps Go.Proofs.YtjlohmhmnghjkaaW.PrintWords Go.Proofs.Ytjlohmhmnghjkaa.PAliasPlays
set_option linter.unusedVariables false
set_option linter.unusedSimpArgs false

section
variable {w : World} {base g bm most n m : Nat} {F : Nat → Option ByteArray}
def AddsPost (w : World) (s : ByteArray) (er : Int) (e : Ending) (w' : World) : Prop := e = .returned (.tuple #[.string s, .int .i64 er]) ∧ Below w.heap.size w w'
set_option maxHeartbeats 4000000 in
set_option maxRecDepth 100000 in
/-- Neither a topic nor an alias. -/
theorem tname_none (h : PT w base g bm most n m F) {A : Option Addr} {c k : Nat} {l : List S61} (hl : Kd.C k61 w A l.length l) (hlc : l.length ≤ c) {r1 : Int} {N : Nat} {r3 r4 : ByteArray} (hget : prop_List_Get.f k l 35 = some (r1, (N : Int), r3, r4, false))
    (topic pay : ByteArray) (ht : topic.size = 0) :
    Calls Try.prog 11 #[.pointer (some ⟨g, 0, none⟩), .agg #[.bool false, .bool false, .int .u8 0, .int .u32 0, .slice A l.length c, .string topic, .string pay]] w (AddsPost w ⟨#[]⟩ 3) := by
  have hu36 := Try.underlying36
  have hu61 := Try.underlying61
  have HP := Lib.hid h
  have HL := Lib.hid hl
  have HG := Lib.hid hget
  have hem := isEmpty_nil topic ht
  clear h hl hget ht
  go_enter Try.func11, Try.ntmps11
  go_wp2_with (go_at_call 18; refine (prop_List_Get.calls k A c l 35 _ _ _ _ _ _ (Kd.C_below HL.out ((Below.refl _ _).alloc (Nat.le_refl _) _)) hlc HG.out).mono ?_; rintro e w1 ⟨rfl, hb1⟩; have HB1 := Lib.hid hb1; clear hb1)
  have HN := Lib.hid (nw_init (N := N) (topic := topic) HP.out #[.bool false, .bool false, .int .u8 0, .int .u32 0, .slice A l.length c, .string topic, .string pay] rfl (.int .i64 r1) (.string r3) (.string r4) (by have := HB1.out; rw [World.size_alloc] at this; exact this))
  generalize w1.alloc (.cells #[.int .i64 r1, .int .u32 N, .string r3, .string r4] 61) = W at HN ⊢
  have t5 := HN.out.t5
  go_quiet (fail)
  go_wp2
  go_ret2
  exact ⟨rfl, pw_below_drewN HN.out.below _⟩
set_option maxHeartbeats 4000000 in
set_option maxRecDepth 100000 in
/-- An alias alone. -/
theorem tname_look (h : PT w base g bm most n m F) {A : Option Addr} {c k : Nat} {l : List S61} (hl : Kd.C k61 w A l.length l) (hlc : l.length ≤ c) {r1 : Int} {N : Nat} {r3 r4 : ByteArray} (hget : prop_List_Get.f k l 35 = some (r1, (N : Int), r3, r4, true))
    (topic pay : ByteArray) (ht : topic.size = 0) (hN0 : N ≠ 0) (hNm : N ≤ most) (hN32 : N < 4294967296)
    (o : Option ByteArray) (ho : F N = o) : Calls Try.prog 11 #[.pointer (some ⟨g, 0, none⟩), .agg #[.bool false, .bool false, .int .u8 0, .int .u32 0, .slice A l.length c, .string topic, .string pay]] w (AddsPost w (o.getD ⟨#[]⟩) (if o.isSome then 0 else 3)) := by
  have hu36 := Try.underlying36
  have hu61 := Try.underlying61
  have HP := Lib.hid h
  have HL := Lib.hid hl
  have HG := Lib.hid hget
  have hem := isEmpty_nil topic ht
  have hN2 : ((N : Int) == 0) = false := beq_eq_false_iff_ne.2 (by omega)
  have hgt : decide ((most : Int) < (N : Int)) = false := decide_eq_false (by omega)
  clear h hl hget ht hN0
  have HO := Lib.hid ho
  clear ho
  cases o with
  | none =>
    go_enter Try.func11, Try.ntmps11
    go_wp2_with (go_at_call 18; refine (prop_List_Get.calls k A c l 35 _ _ _ _ _ _ (Kd.C_below HL.out ((Below.refl _ _).alloc (Nat.le_refl _) _)) hlc HG.out).mono ?_; rintro e w1 ⟨rfl, hb1⟩; have HB1 := Lib.hid hb1; clear hb1)
    have HN := Lib.hid (nw_init (N := N) (topic := topic) HP.out #[.bool false, .bool false, .int .u8 0, .int .u32 0, .slice A l.length c, .string topic, .string pay] rfl (.int .i64 r1) (.string r3) (.string r4) (by have := HB1.out; rw [World.size_alloc] at this; exact this))
    generalize w1.alloc (.cells #[.int .i64 r1, .int .u32 N, .string r3, .string r4] 61) = W at HN ⊢
    have t5 := HN.out.t5
    have c0 := HN.out.c0
    have c1 := HN.out.c1
    have x1 := HN.out.x1
    have hlk := fun j => look_at (HN.out.pt.below (pw_below_drewN (Below.refl _ _) j)) N hN32
    rw [HO.out] at hlk
    simp only [Option.getD_none, Option.isSome_none, Option.getD_some, Option.isSome_some] at hlk
    go_quiet (fail)
    go_wp2
    go_quiet (fail)
    go_wp2
    go_ret2
    exact ⟨rfl, pw_below_drewN HN.out.below _⟩
  | some s =>
    go_enter Try.func11, Try.ntmps11
    go_wp2_with (go_at_call 18; refine (prop_List_Get.calls k A c l 35 _ _ _ _ _ _ (Kd.C_below HL.out ((Below.refl _ _).alloc (Nat.le_refl _) _)) hlc HG.out).mono ?_; rintro e w1 ⟨rfl, hb1⟩; have HB1 := Lib.hid hb1; clear hb1)
    have HN := Lib.hid (nw_init (N := N) (topic := topic) HP.out #[.bool false, .bool false, .int .u8 0, .int .u32 0, .slice A l.length c, .string topic, .string pay] rfl (.int .i64 r1) (.string r3) (.string r4) (by have := HB1.out; rw [World.size_alloc] at this; exact this))
    generalize w1.alloc (.cells #[.int .i64 r1, .int .u32 N, .string r3, .string r4] 61) = W at HN ⊢
    have t5 := HN.out.t5
    have c0 := HN.out.c0
    have c1 := HN.out.c1
    have x1 := HN.out.x1
    have hlk := fun j => look_at (HN.out.pt.below (pw_below_drewN (Below.refl _ _) j)) N hN32
    rw [HO.out] at hlk
    simp only [Option.getD_none, Option.isSome_none, Option.getD_some, Option.isSome_some] at hlk
    go_quiet (fail)
    go_wp2
    go_quiet (fail)
    go_wp2
    go_ret2
    exact ⟨rfl, pw_below_drewN HN.out.below _⟩
end
end Go.Proofs.Ytjlohmhmnghjkaa

/- (*alias.Table).Name: a topic without an alias. -/
import Derived.Test.YtjlohmhmnghjkaaN1
namespace Go.Proofs.Ytjlohmhmnghjkaa
open Go.RowKit Go.Maps Go.Proofs.YtjlohmhmnghjkaaW.PrintWords Go.Proofs.Ytjlohmhmnghjkaa.PAliasPlays
set_option linter.unusedVariables false
set_option linter.unusedSimpArgs false

section
variable {w : World} {base g bm most n m : Nat} {F : Nat → Option ByteArray}
def PlainPost (w : World) (topic : ByteArray) (e : Ending) (w' : World) : Prop :=
  ∃ b, NameW topic b ∧ e = .returned (.tuple #[.string (if b then topic else ⟨#[]⟩), .int .i64 (if b then 0 else 9)]) ∧ Below w.heap.size w w'
set_option maxHeartbeats 4000000 in
set_option maxRecDepth 100000 in
theorem tname_plain (h : PT w base g bm most n m F) {A : Option Addr} {c k : Nat} {l : List S61} (hl : Kd.C k61 w A l.length l) (hlc : l.length ≤ c) {r1 : Int} {N : Nat} {r3 r4 : ByteArray} (hget : prop_List_Get.f k l 35 = some (r1, (N : Int), r3, r4, false))
    (topic pay : ByteArray) (ht : 0 < topic.size) (hts : topic.size < 4294967281) :
    Calls Try.prog 11 #[.pointer (some ⟨g, 0, none⟩), .agg #[.bool false, .bool false, .int .u8 0, .int .u32 0, .slice A l.length c, .string topic, .string pay]] w (PlainPost w topic) := by
  have hu36 := Try.underlying36
  have hu61 := Try.underlying61
  have HP := Lib.hid h
  have HL := Lib.hid hl
  have HG := Lib.hid hget
  have HT := Lib.hid (fun W => name_calls topic W hts)
  have hem := isEmpty_of topic ht
  clear h hl hget ht hts
  go_enter Try.func11, Try.ntmps11
  go_wp2_with (go_at_call 18; refine (prop_List_Get.calls k A c l 35 _ _ _ _ _ _ (Kd.C_below HL.out ((Below.refl _ _).alloc (Nat.le_refl _) _)) hlc HG.out).mono ?_; rintro e w1 ⟨rfl, hb1⟩; have HB1 := Lib.hid hb1; clear hb1)
  have HN := Lib.hid (nw_init (N := N) (topic := topic) HP.out #[.bool false, .bool false, .int .u8 0, .int .u32 0, .slice A l.length c, .string topic, .string pay] rfl (.int .i64 r1) (.string r3) (.string r4) (by have := HB1.out; rw [World.size_alloc] at this; exact this))
  generalize w1.alloc (.cells #[.int .i64 r1, .int .u32 N, .string r3, .string r4] 61) = W at HN ⊢
  have t5 := HN.out.t5
  go_quiet (fail)
  go_wp2_with (go_at_call 19; refine (HT.out _).mono ?_; rintro e w2 hp2; obtain ⟨b, rfl, hnw, hb2⟩ := hp2; have HW := Lib.hid hnw; have HN2 := Lib.hid ((HN.out.to (pw_below_drewN (Below.refl _ _) _)).to hb2); have t52 := HN2.out.t5; clear hnw hb2 t5)
  · obtain rfl : b = false := by
      have h : (!b) = true := by assumption
      cases b
      · rfl
      · cases h
    go_ret2
    exact ⟨false, HW.out, rfl, HN2.out.below⟩
  · obtain rfl : b = true := by
      have h : (!b) = false := by assumption
      cases b
      · cases h
      · rfl
    go_ret2
    exact ⟨true, HW.out, rfl, HN2.out.below⟩
end
end Go.Proofs.Ytjlohmhmnghjkaa

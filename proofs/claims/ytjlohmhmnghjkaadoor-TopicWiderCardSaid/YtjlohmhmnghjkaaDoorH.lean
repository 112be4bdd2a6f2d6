/- word.Good, topic.text, topic.Name: what they compute. -/
import Derived.Test.YtjlohmhmnghjkaaDoorG
namespace Go.Proofs.YtjlohmhmnghjkaaDoor
open Go.RowKit Go.Lib
set_option linter.unusedVariables false
set_option linter.unusedSimpArgs false

theorem isEmpty_of (s : ByteArray) (h : 0 < s.size) : s.toList.isEmpty = false := by
  rw [Lib.toList_data]
  cases e : s.data.toList with
  | nil => have := Lib.size_eq s; rw [e, List.length_nil] at this; omega
  | cons _ _ => rfl
theorem isEmpty_nil (s : ByteArray) (h : s.size = 0) : s.toList.isEmpty = true := by
  have : s.data.toList = [] := List.length_eq_zero_iff.1 (by rw [← Lib.size_eq]; exact h)
  rw [Lib.toList_data, this]; rfl

def GoodPost (s : ByteArray) (w : World) (e : Ending) (w' : World) : Prop := ∃ b, e = .returned (.bool b) ∧ (s.size ≤ 65535 → GoodW s b) ∧ (65535 < s.size → b = false) ∧ Below w.heap.size w w'
set_option maxHeartbeats 2000000 in
set_option maxRecDepth 1000000 in
theorem good_calls (s : ByteArray) (w : World) : Calls Tryd.prog 40 #[.string s] w (GoodPost s w) := by
  have hb := Lib.hid (Below.refl w.heap.size w)
  by_cases hs : (65535 : Int) < s.size
  · go_enter Tryd.func40, Tryd.ntmps40
    go_wp2
    go_ret
    exact ⟨false, rfl, fun h => by omega, fun _ => rfl, hb.out⟩
  · have hsz : s.size ≤ 65535 := by omega
    go_enter Tryd.func40, Tryd.ntmps40
    go_wp2_with fail
    go_loopg [0] s.size (fun g v wx => ∃ t : ByteArray, v = .string t ∧ t.size ≤ g ∧ Hid (∀ b, GoodW t b → GoodW s b) ∧ Hid (Below w.heap.size w wx))
    case atStart => exact ⟨s, rfl, Nat.le_refl _, fun b h => h, hb.out⟩
    case round =>
      clear hb
      obtain ⟨t, rfl, htg, hto, hB⟩ := hrel
      by_cases ht : 0 < t.size
      · have hem := isEmpty_of t ht
        obtain ⟨g, rfl⟩ : ∃ g, gk = g + 1 := ⟨gk - 1, by omega⟩
        go_wp2_with (go_at_call 33; refine (sign_calls t _).mono ?_; rintro e w1 hp; obtain ⟨v, n, rfl, hS, hb1⟩ := hp; have HS := Lib.hid hS; have HB1 := Lib.hid hb1; have hle := hS.le; clear hS hb1)
        · go_ret
          exact ⟨false, rfl, fun _ => hto.out _ (.bad t v _ ht HS.out (.inl (by omega))), fun h => by omega, hB.out.trans (HB1.out.mono hB.out.size)⟩
        · go_ret
          exact ⟨false, rfl, fun _ => hto.out _ (.bad t _ n ht HS.out (by
            have h : ((n : Int) == 0) = true ∨ ((v : Int) == 0) = true := by assumption
            rcases h with h | h
            · exact .inl (by have := beq_iff_eq.1 h; omega)
            · exact .inr (by have := beq_iff_eq.1 h; omega))), fun h => by omega, hB.out.trans (HB1.out.mono hB.out.size)⟩
        · have hn0 : n ≠ 0 := by
            rintro rfl
            simp_all
          have hv0 : v ≠ 0 := by
            rintro rfl
            simp_all
          go_roundg g
          case measure => omega
          case rel => exact ⟨t.extract n t.size, rfl, (by rw [ByteArray.size_extract, Nat.min_self]; omega), Lib.hid fun b hb => hto.out b (.step t v n b ht HS.out hn0 hv0 hb), hB.out.trans (HB1.out.mono hB.out.size)⟩
      · have hem := isEmpty_nil t (by omega)
        have HG := Lib.hid (hto.out true (.nil t (by omega)))
        go_wp2
        go_ret
        exact ⟨true, rfl, fun _ => HG.out, fun h => by omega, hB.out⟩

/-- A string that isn't empty, of not too many levels. -/
structure TextW (s : ByteArray) (b : Bool) : Prop where
  st : ∃ g, (s.size ≤ 65535 → GoodW s g) ∧ (65535 < s.size → g = false) ∧ b = (decide (0 < s.size) && g && decide (Lib.countByte s.data.toList 47 < 32))
set_option maxHeartbeats 2000000 in
set_option maxRecDepth 1000000 in
theorem text_calls (s : ByteArray) (w : World) : Calls Tryd.prog 42 #[.string s] w fun e w' => ∃ b, e = .returned (.bool b) ∧ TextW s b ∧ Below w.heap.size w w' := by
  have hb := Lib.hid (Below.refl w.heap.size w)
  by_cases hs : 0 < s.size
  · have hem := isEmpty_of s hs
    go_enter Tryd.func42, Tryd.ntmps42
    go_wp2_with (first
      | (go_at_call 40; refine (good_calls s _).mono ?_; rintro e w1 hp; obtain ⟨g, rfl, hg1, hg2, hb1⟩ := hp; have HG1 := Lib.hid hg1; have HG2 := Lib.hid hg2; have HB1 := Lib.hid hb1; clear hg1 hg2 hb1)
      | (go_at_call 62; refine (Tryd.strings_Count_one s 47 _).mono ?_; rintro e w2 ⟨rfl, hw⟩; rw [hw]; clear hw w2))
    · obtain rfl : g = true := by assumption
      go_ret
      refine ⟨_, rfl, ⟨true, HG1.out, HG2.out, ?_⟩, HB1.out⟩
      rw [decide_eq_true hs, Bool.true_and, Bool.true_and]
      exact decide_eq_decide.2 (by omega)
    · obtain rfl : g = false := by cases g <;> simp_all
      go_ret
      refine ⟨_, rfl, ⟨false, HG1.out, HG2.out, ?_⟩, HB1.out⟩
      rw [Bool.and_false]; rfl
  · have hem := isEmpty_nil s (by omega)
    have HT := Lib.hid (show TextW s false from ⟨true, fun _ => .nil s (by omega), fun h => by omega, by rw [decide_eq_false (by omega)]; rfl⟩)
    go_enter Tryd.func42, Tryd.ntmps42
    go_wp2
    go_ret
    exact ⟨false, rfl, HT.out, hb.out⟩

/-- May a text be a topic's name? -/
structure NameW (s : ByteArray) (b : Bool) : Prop where
  st : ∃ t, TextW s t ∧ b = (t && !signsB s)
set_option maxHeartbeats 2000000 in
set_option maxRecDepth 1000000 in
theorem name_calls (s : ByteArray) (w : World) (hs : s.size < 4294967281) : Calls Tryd.prog 16 #[.string s] w fun e w' => ∃ b, e = .returned (.bool b) ∧ NameW s b ∧ Below w.heap.size w w' := by
  have HC := Lib.hid (fun W => containsAny_any s W hs)
  clear hs
  go_enter Tryd.func16, Tryd.ntmps16
  go_wp2_with (first
    | (go_at_call 42; refine (text_calls s _).mono ?_; rintro e w1 hp; obtain ⟨g, rfl, hg1, hb1⟩ := hp; have HG1 := Lib.hid hg1; have HB1 := Lib.hid hb1; clear hg1 hb1)
    | (go_at_call 43; refine (HC.out _).mono ?_; rintro e w2 ⟨rfl, hb2⟩; have HB2 := Lib.hid (HB1.out.trans (hb2.mono HB1.out.size)); clear hb2))
  · obtain rfl : g = true := by assumption
    go_ret
    exact ⟨_, rfl, ⟨true, HG1.out, by simp⟩, HB2.out⟩
  · obtain rfl : g = false := by cases g <;> simp_all
    go_ret
    exact ⟨false, rfl, ⟨false, HG1.out, rfl⟩, HB1.out⟩
end Go.Proofs.YtjlohmhmnghjkaaDoor

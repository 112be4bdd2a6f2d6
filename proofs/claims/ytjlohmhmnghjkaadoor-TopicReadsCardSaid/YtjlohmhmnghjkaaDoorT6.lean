/- Words as functions: each text has one answer. -/
import Derived.Test.YtjlohmhmnghjkaaDoorT5
namespace Go.Proofs.YtjlohmhmnghjkaaDoor
open Go.RowKit Go.Lib Go.Proofs.YtjlohmhmnghjkaaDoorW.PrintWords Go.Proofs.YtjlohmhmnghjkaaDoor.PTopicReads
set_option linter.unusedVariables false
set_option linter.unusedSimpArgs false

theorem sign_total (s : ByteArray) : ∃ v n, SignW s v n := by
  by_cases h : 0 < s.size
  · by_cases h1 : byteAt s 0 < 128
    · exact ⟨_, _, .one h h1⟩
    · by_cases h2 : signN (byteAt s 0) = 0
      · exact ⟨_, _, .first h (by omega) h2⟩
      · by_cases h3 : s.size < signN (byteAt s 0)
        · exact ⟨_, _, .short _ h (by omega) rfl (by omega) h3⟩
        · by_cases h4 : contOk s (signN (byteAt s 0))
          · by_cases h5 : badV (signN (byteAt s 0)) (valW s (firstV (byteAt s 0) (signN (byteAt s 0))) (signN (byteAt s 0) - 1))
            · exact ⟨_, _, .bad _ h (by omega) rfl (by omega) (by omega) h4 h5⟩
            · exact ⟨_, _, .good _ h (by omega) rfl (by omega) (by omega) h4 h5⟩
          · unfold contOk at h4
            obtain ⟨k, hk⟩ := Classical.not_forall.1 h4
            have hk' : 1 ≤ k ∧ k < signN (byteAt s 0) ∧ byteAt s k / 64 ≠ 2 := by
              refine ⟨?_, ?_, ?_⟩
              · exact Classical.byContradiction fun h => hk (fun h1 => absurd h1 h)
              · exact Classical.byContradiction fun h => hk (fun _ h1 => absurd h1 h)
              · exact fun h => hk (fun _ _ => h)
            exact ⟨_, _, .cont _ k h (by omega) rfl (by omega) hk'.1 hk'.2.1 hk'.2.2⟩
  · exact ⟨_, _, .none (by omega)⟩
theorem good_total : ∀ (m : Nat) (s : ByteArray), s.size ≤ m → ∃ b, GoodW s b
  | 0, s, h => ⟨true, .nil s (by omega)⟩
  | m + 1, s, h => by
    by_cases h0 : 0 < s.size
    · obtain ⟨v, n, hS⟩ := sign_total s
      by_cases hb : n = 0 ∨ v = 0
      · exact ⟨false, .bad s v n h0 hS hb⟩
      · obtain ⟨b, hb2⟩ := good_total m (s.extract n s.size) (by rw [ByteArray.size_extract]; omega)
        exact ⟨b, .step s v n b h0 hS (fun h => hb (.inl h)) (fun h => hb (.inr h)) hb2⟩
    · exact ⟨true, .nil s (by omega)⟩
def goodB (s : ByteArray) : Bool := (switchboardref02_Good.f (2 * s.size + 30) s).getD false
theorem goodB_of {s : ByteArray} {b : Bool} (h : GoodW s b) (hs : s.size ≤ 65535) : b = goodB s := by
  unfold goodB
  rw [good_f h hs _ (Nat.le_refl _)]
  rfl
theorem goodB_W (s : ByteArray) (hs : s.size ≤ 65535) : GoodW s (goodB s) := by
  obtain ⟨b, hb⟩ := good_total s.size s (Nat.le_refl _)
  rwa [← goodB_of hb hs]
theorem good_fB (s : ByteArray) (hs : s.size ≤ 65535) (k : Nat) (hk : 2 * s.size + 30 ≤ k) : switchboardref02_Good.f k s = some (goodB s) := good_f (goodB_W s hs) hs k hk
def textB (s : ByteArray) : Bool := decide (0 < s.size) && goodB s && decide (Lib.countByte s.data.toList 47 < 32)
def nameB (s : ByteArray) : Bool := textB s && !signsB s
def filterB (s : ByteArray) : Bool := textB s && okL (levelsOf s)
theorem textB_W (s : ByteArray) (hs : s.size ≤ 65535) : TextW s (textB s) := ⟨goodB s, fun _ => goodB_W s hs, fun h => by omega, rfl⟩
theorem textB_of {s : ByteArray} {t : Bool} (h : TextW s t) (hs : s.size ≤ 65535) : t = textB s := by
  obtain ⟨g, h1, _, rfl⟩ := h.st
  unfold textB
  rw [goodB_of (h1 hs) hs]
theorem nameB_of {s : ByteArray} {b : Bool} (h : NameW s b) (hs : s.size ≤ 65535) : b = nameB s := by
  obtain ⟨t, ht, rfl⟩ := h.st
  unfold nameB
  rw [textB_of ht hs]
theorem filterB_of {s : ByteArray} {b : Bool} (h : FilterW s b) (hs : s.size ≤ 65535) : b = filterB s := by
  obtain ⟨t, ht, rfl⟩ := h.st
  unfold filterB
  rw [textB_of ht hs]
theorem name_fB (s : ByteArray) (hs : s.size ≤ 65535) (k : Nat) (hk : 2 * s.size + 30 ≤ k) : switchboardref10_Name.f k s = some (nameB s) := name_f ⟨textB s, textB_W s hs, rfl⟩ hs k hk
theorem filter_fB (s : ByteArray) (hs : s.size ≤ 65535) (k : Nat) (hk : 3 * s.size + 65700 ≤ k) : switchboardref10_Filter.f k s = some (filterB s) := filter_f ⟨textB s, textB_W s hs, rfl⟩ hs k hk
theorem good_callsB (s : ByteArray) (w : World) (hs : s.size ≤ 65535) : Calls Tryd.prog 40 #[.string s] w fun e w' => e = .returned (.bool (goodB s)) ∧ Below w.heap.size w w' := by
  refine (good_calls s w).mono ?_
  rintro e w' ⟨b, rfl, h1, _, hb⟩
  rw [goodB_of (h1 hs) hs]
  exact ⟨rfl, hb⟩
theorem name_callsB (s : ByteArray) (w : World) (hs : s.size ≤ 65535) : Calls Tryd.prog 16 #[.string s] w fun e w' => e = .returned (.bool (nameB s)) ∧ Below w.heap.size w w' := by
  refine (name_calls s w (by omega)).mono ?_
  rintro e w' ⟨b, rfl, h1, hb⟩
  rw [nameB_of h1 hs]
  exact ⟨rfl, hb⟩
theorem filter_callsB (s : ByteArray) (w : World) (hm : HasM w) (hs : s.size ≤ 65535) : Calls Tryd.prog 17 #[.string s] w fun e w' => e = .returned (.bool (filterB s)) ∧ Below w.heap.size w w' := by
  refine (filter_calls s w hm (by omega)).mono ?_
  rintro e w' ⟨b, rfl, h1, hb⟩
  rw [filterB_of h1 hs]
  exact ⟨rfl, hb⟩
end Go.Proofs.YtjlohmhmnghjkaaDoor

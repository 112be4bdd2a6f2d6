/- strings.ContainsAny(s, "+#") at whatever s: the loop over signs. -/
import Derived.Test.YtjlohmhmnghjkaaDoorA
namespace Go.Proofs.YtjlohmhmnghjkaaDoor
open Go.RowKit Go.Lib
set_option linter.unusedVariables false

theorem indexRune_ge (w : World) (r : Int) (h0 : 128 ≤ r) :
    Calls Tryd.prog 79 #[.string ⟨#[43, 35]⟩, .int .i32 r] w fun e w' => e = .returned (.int .i64 (-1)) ∧ Below w.heap.size w w' := by
  by_cases h : r = 65533
  · subst h; exact indexRune_err w
  · exact indexRune_far w r h0 h

/-- What is decoded: a byte below 128 alone, or bytes from 128 on. -/
structure Dec (s : ByteArray) (i c wd : Nat) : Prop where
  one : 1 ≤ wd
  fits : i + wd ≤ s.size
  val : (c < 128 ∧ wd = 1 ∧ ∃ x : UInt8, s.data.toList[i]? = some x ∧ x.toNat = c) ∨ (128 ≤ c ∧ ∀ j, j < wd → ∀ x, s.data.toList[i + j]? = some x → 128 ≤ x.toNat)
theorem get!_of {s : ByteArray} {k : Nat} {x : UInt8} (h : s.data.toList[k]? = some x) : s.get! k = x := by
  have hk : k < s.size := by
    rw [Lib.size_eq]
    exact (List.getElem?_eq_some_iff.1 h).1
  have h2 := Lib.data_getElem? s k hk
  rw [h2] at h
  have e : s.get! k = s[k]'hk := by
    show s.get! k = _
    simp [ByteArray.get!, getElem!_pos, hk]
    rfl
  rw [e]
  exact Option.some.inj h
theorem decode_dec (s : ByteArray) (i : Nat) (h : i < s.size) : Dec s i (Utf8.decode s i).1 (Utf8.decode s i).2 := by
  have g0 : ∀ x, s.data.toList[i]? = some x → s.get! (i + 0) = x := fun x hx => get!_of hx
  have gk : ∀ k x, s.data.toList[i + k]? = some x → s.get! (i + k) = x := fun k x hx => get!_of hx
  obtain ⟨x0, hx0⟩ : ∃ x, s.data.toList[i]? = some x := ⟨_, List.getElem?_eq_getElem (by rw [← Lib.size_eq]; exact h)⟩
  have e0 := g0 _ hx0
  unfold Utf8.decode
  simp only [e0]
  have far : ∀ (n : Nat), ¬ x0.toNat < 128 → (∀ k, 0 < k → k < n → i + k < s.size ∧ (s.get! (i + k)).toNat / 64 = 2) → ∀ j, j < n → ∀ x, s.data.toList[i + j]? = some x → 128 ≤ x.toNat := by
    intro n hn hc j hj x hx
    cases j with
    | zero => rw [Nat.add_zero, hx0] at hx; cases hx; omega
    | succ j =>
      have := (hc (j + 1) (by omega) hj).2
      rw [gk _ _ hx] at this
      omega
  have err : ¬ x0.toNat < 128 → Dec s i Utf8.runeError 1 := fun hn => ⟨Nat.le_refl _, h, .inr ⟨by decide, far 1 hn (fun k h1 h2 => by omega)⟩⟩
  by_cases h1 : x0.toNat < 128
  · rw [if_pos h1]
    exact ⟨Nat.le_refl _, h, .inl ⟨h1, rfl, x0, hx0, rfl⟩⟩
  rw [if_neg h1]
  by_cases h2 : (x0.toNat / 32 == 6 && (decide (i + 1 < s.size) && (s.get! (i + 1)).toNat / 64 == 2)) = true
  · rw [if_pos h2]
    simp only [Bool.and_eq_true, beq_iff_eq, decide_eq_true_eq] at h2
    split
    · rename_i h3
      exact ⟨Nat.le_succ 1, by show i + 2 ≤ _; omega, .inr ⟨h3, far 2 h1 (fun k k1 k2 => by
        obtain rfl : k = 1 := by omega
        exact ⟨h2.2.1, h2.2.2⟩)⟩⟩
    · exact err h1
  rw [if_neg h2]
  by_cases h3 : (x0.toNat / 16 == 14 && (decide (i + 1 < s.size) && (s.get! (i + 1)).toNat / 64 == 2) && (decide (i + 2 < s.size) && (s.get! (i + 2)).toNat / 64 == 2)) = true
  · rw [if_pos h3]
    simp only [Bool.and_eq_true, beq_iff_eq, decide_eq_true_eq] at h3
    split
    · rename_i h4
      have h5 := of_decide_eq_true (Bool.and_eq_true_iff.1 h4).1
      exact ⟨by show 1 ≤ 3; omega, by show i + 3 ≤ _; omega, .inr ⟨by show 128 ≤ _; omega, far 3 h1 (fun k k1 k2 => by
        rcases (show k = 1 ∨ k = 2 by omega) with rfl | rfl
        · exact h3.1.2
        · exact h3.2)⟩⟩
    · exact err h1
  rw [if_neg h3]
  by_cases h4 : (x0.toNat / 8 == 30 && (decide (i + 1 < s.size) && (s.get! (i + 1)).toNat / 64 == 2) && (decide (i + 2 < s.size) && (s.get! (i + 2)).toNat / 64 == 2) && (decide (i + 3 < s.size) && (s.get! (i + 3)).toNat / 64 == 2)) = true
  · rw [if_pos h4]
    simp only [Bool.and_eq_true, beq_iff_eq, decide_eq_true_eq] at h4
    split
    · rename_i h5
      have h6 := of_decide_eq_true (Bool.and_eq_true_iff.1 h5).1
      exact ⟨by show 1 ≤ 4; omega, by show i + 4 ≤ _; omega, .inr ⟨by show 128 ≤ _; omega, far 4 h1 (fun k k1 k2 => by
        rcases (show k = 1 ∨ k = 2 ∨ k = 3 by omega) with rfl | rfl | rfl
        · exact h4.1.1.2
        · exact h4.1.2
        · exact h4.2)⟩⟩
    · exact err h1
  · rw [if_neg h4]
    exact err h1

theorem run_next_at {P : Program} (W : World) (b : Nat) (s : ByteArray) (pos : Nat) (ty : TypeId) (hb : W.heap[b]? = some (.stringIter s pos)) (h : pos < s.size) :
    (Instr.next (.pointer (some ⟨b, 0, none⟩)) true ty).run P W = .ok (.tuple #[.bool true, .int .i64 pos, .int .i32 (Utf8.decode s pos).1]) { W with heap := W.heap.setIfInBounds b (.stringIter s (pos + (Utf8.decode s pos).2)) } := by
  simp only [Instr.next, getObj, setObj, Sem.run_bind, Sem.run, hb, Result.andThen, h, if_true]
  simp [goInt]
theorem run_next_stop {P : Program} (W : World) (b : Nat) (s : ByteArray) (pos : Nat) (ty : TypeId) (hb : W.heap[b]? = some (.stringIter s pos)) (h : ¬ pos < s.size) :
    (Instr.next (.pointer (some ⟨b, 0, none⟩)) true ty).run P W = .ok (.tuple #[.bool false]) W := by
  simp [Instr.next, getObj, Sem.run, hb, h]

/-- One round's step of the loop over signs. -/
theorem next_step (wr w : World) (s : ByteArray) (b i : Nat) (hB : Below b w wr) (hb : wr.heap[b]? = some (.stringIter s i)) (hi : i < s.size) :
    ∃ W c wd, Dec s i c wd ∧ (∀ ty, (Instr.next (.pointer (some ⟨b, 0, none⟩)) true ty).run Tryd.prog wr = .ok (.tuple #[.bool true, .int .i64 i, .int .i32 c]) W) ∧ Below b w W ∧ W.heap[b]? = some (.stringIter s (i + wd)) ∧ b < W.heap.size := by
  have hlt : b < wr.heap.size := (Array.getElem?_eq_some_iff.1 hb).1
  refine ⟨_, _, _, decode_dec s i hi, fun ty => run_next_at wr b s i ty hb hi, ?_, ?_, ?_⟩
  · exact ⟨hB.os, hB.tape, hB.output, by simpa using hB.size, fun k hk => by
      show (wr.heap.setIfInBounds b _)[k]? = _
      rw [Array.getElem?_setIfInBounds_ne (by omega)]
      exact hB.block k hk⟩
  · show (wr.heap.setIfInBounds b _)[b]? = _
    simp [hlt]
  · show b < (wr.heap.setIfInBounds b _).size
    simpa using hlt

def plusHash : List UInt8 := [43, 35]
theorem noany_far {s : ByteArray} {i wd : Nat} (h : NoAny s.data.toList plusHash i) (hf : ∀ j, j < wd → ∀ x, s.data.toList[i + j]? = some x → 128 ≤ x.toNat) : NoAny s.data.toList plusHash (i + wd) := by
  intro j x hj hx
  by_cases h1 : j < i
  · exact h j x h1 hx
  · have := hf (j - i) (by omega) x (by rwa [show i + (j - i) = j by omega])
    unfold plusHash
    simp only [List.contains_cons, List.contains_nil, Bool.or_false, Bool.or_eq_false_iff, beq_eq_false_iff_ne]
    constructor
    · rintro rfl; revert this; decide
    · rintro rfl; revert this; decide

theorem indexRune_lo (x : UInt8) (h : x.toNat < 128) (w : World) :
    Calls Tryd.prog 79 #[.string ⟨#[43, 35]⟩, .int .i32 x.toNat] w fun e w' => e = .returned (.int .i64 (Lib.indexByte plusHash x)) ∧ w = w' := by
  refine (Tryd.strings_IndexRune_ascii ⟨#[43, 35]⟩ x.toNat w (by omega) (by omega)).mono ?_
  rintro e w' ⟨rfl, rfl⟩
  have hback : ((x.toNat : Int)).toNat.toUInt8 = x := by simp
  rw [hback]
  exact ⟨rfl, rfl⟩

set_option maxHeartbeats 2000000 in
set_option maxRecDepth 1000000 in
theorem indexAny_short (s : ByteArray) (w : World) (h8 : s.size ≤ 8) :
    Calls Tryd.prog 63 #[.string s, .string ⟨#[43, 35]⟩] w fun e w' => e = .returned (.int .i64 (Lib.indexAny s.data.toList plusHash)) ∧ Below w.heap.size w w' := by
  have h8z : decide ((8 : Int) < (s.size : Int)) = false := decide_eq_false (by omega)
  have hst := Lib.hid (show Below w.heap.size w (w.iter s 0) ∧ (w.iter s 0).heap[w.heap.size]? = some (.stringIter s 0) from ⟨(Below.refl _ _).alloc (Nat.le_refl _) _, World.iter_heap w s 0⟩)
  go_enter Tryd.func63, Tryd.ntmps63
  go_wp2_with (go_at_call 80; refine (Tryd.strings_shouldUseASCIISet _ _).mono ?_; rintro e w' ⟨rfl, hw⟩; rw [hw, h8z])
  go_loopg [9, 10] s.size (fun g _ _ wx => ∃ i : Nat, s.size ≤ i + g ∧ i ≤ s.size ∧ Hid (Below w.heap.size w wx) ∧ Hid (wx.heap[w.heap.size]? = some (.stringIter s i)) ∧ Hid (Lib.NoAny s.data.toList plusHash i))
  case atStart => exact ⟨0, by omega, by omega, hst.out.1, hst.out.2, Lib.NoAny.zero _ _⟩
  case round =>
    clear hst
    obtain ⟨i, hig, his, hB, hI, hno⟩ := hrel
    by_cases hi : i < s.size
    · obtain ⟨g, rfl⟩ : ∃ g, gk = g + 1 := ⟨gk - 1, by omega⟩
      obtain ⟨W, c, wd, hdec, hnx, hBW, hIW, hlt⟩ := next_step wr w s w.heap.size i hB.out hI.out hi
      obtain ⟨d1, d2, d3⟩ := hdec
      have HB := Lib.hid hBW
      have HI := Lib.hid hIW
      clear hBW hIW hB hI
      rcases d3 with ⟨hc, rfl, x, hx, rfl⟩ | ⟨hc, hf⟩
      · have hx128 : x.toNat < 128 := hc
        have Hx := Lib.hid hx
        clear hx
        have hcon := Lib.contains_iff_indexByte plusHash x
        have hback : ((x.toNat : Int)).toNat.toUInt8 = x := by simp
        have hir := Lib.hid (fun W => indexRune_lo x hx128 W)
        clear hback
        cases hin : plusHash.contains x
        · rw [hin] at hcon
          have hlt0 : ¬ ((0 : Int) ≤ Lib.indexByte plusHash x) := of_decide_eq_false hcon.symm
          clear hcon
          go_wp2_with (go_at_call 79; refine (hir.out _).mono ?_; rintro e w' ⟨rfl, rfl⟩)
          go_roundg g
          case measure => omega
          case rel => exact ⟨i + 1, by omega, d2, HB.out, HI.out, hno.out.succ Hx.out hin⟩
        · rw [hin] at hcon
          have hge : (0 : Int) ≤ Lib.indexByte plusHash x := of_decide_eq_true hcon.symm
          clear hcon
          go_wp2_with (go_at_call 79; refine (hir.out _).mono ?_; rintro e w' ⟨rfl, rfl⟩)
          go_ret
          exact ⟨by rw [Lib.indexAny_hit hno.out Hx.out hin]; rfl, HB.out⟩
      · have HF := Lib.hid (noany_far hno.out hf)
        clear hf hno
        go_wp2_with (go_at_call 79; refine (indexRune_ge _ _ (by omega)).mono ?_; rintro e w' ⟨rfl, hw⟩; have HW := Lib.hid hw; clear hw)
        go_roundg g
        case measure => omega
        case rel => exact ⟨i + wd, by omega, d2, HB.out.trans (HW.out.mono (Nat.le_of_lt hlt)), (HW.out.block _ hlt).trans HI.out, HF.out⟩
    · obtain rfl : i = s.size := by omega
      have hnx := fun ty => run_next_stop (P := Tryd.prog) wr w.heap.size s s.size ty hI.out (Nat.lt_irrefl _)
      go_wp2
      go_ret
      exact ⟨by rw [Lib.indexAny_none (by rw [← Lib.size_eq]; exact hno.out)]; rfl, hB.out⟩

/-- Has a text a + or a #? -/
def signsB (s : ByteArray) : Bool := decide (0 ≤ Lib.indexAny s.data.toList plusHash)
theorem zero116 : ∀ w, (zeroValue 94).run Tryd.prog w = .ok (.agg (Array.replicate 256 (.bool false))) w := (zero_of_info (P := Tryd.prog) (t := 94) (n := 256) (by kernel_rfl)).1
theorem indexAny_any (s : ByteArray) (w : World) (hs : s.size < 4294967281) :
    Calls Tryd.prog 63 #[.string s, .string ⟨#[43, 35]⟩] w fun e w' => e = .returned (.int .i64 (Lib.indexAny s.data.toList plusHash)) ∧ Below w.heap.size w w' := by
  by_cases h8 : s.size ≤ 8
  · exact indexAny_short s w h8
  · refine (Tryd.strings_IndexAny_long zero116 s ⟨#[43, 35]⟩ w (Nat.le_refl _) (by omega) hs (by decide) (fun j b hb => ?_)).mono ?_
    · match j, hb with
      | 0, hb => cases hb; decide
      | 1, hb => cases hb; decide
    · rintro e w' ⟨rfl, rfl⟩
      exact ⟨rfl, ((Below.refl _ _).alloc (Nat.le_refl _) _).alloc (by simp) _⟩
theorem containsAny_any (s : ByteArray) (w : World) (hs : s.size < 4294967281) :
    Calls Tryd.prog 43 #[.string s, .string ⟨#[43, 35]⟩] w fun e w' => e = .returned (.bool (signsB s)) ∧ Below w.heap.size w w' := by
  have h := Lib.hid (indexAny_any s w hs)
  clear hs
  go_enter Tryd.func43, Tryd.ntmps43
  go_wp2_with (go_at_call 63; refine h.out.mono ?_; rintro e w' ⟨rfl, hb⟩; have HB := Lib.hid hb; clear hb)
  go_ret
  exact ⟨rfl, HB.out⟩
end Go.Proofs.YtjlohmhmnghjkaaDoor

/- Parts of a proof about aliases: T1. -/
import Derived.Laws.RangeString
import Derived.Test.YtbfgpkogginmjaaGreatDoorZ10
import Derived.Test.YtbfgpkogginmjaaGreatDoorZ13
section
namespace Go.Proofs.YtbfgpkogginmjaaGreatDoor
open Go.RowKit Go.Lib Go.Proofs.YtbfgpkogginmjaaGreatDoorW.PrintWords Go.Proofs.YtbfgpkogginmjaaGreatDoor.PSwitchboardGreat
set_option linter.unusedVariables false
set_option linter.unusedSimpArgs false
set_option maxRecDepth 1000000
def letB (x : UInt8) : Prop := x = 116 ∨ x = 97 ∨ x = 98 ∨ x = 99
def Asc (s : ByteArray) : Prop := ∀ x ∈ s.data.toList, 0 < x.toNat ∧ x.toNat < 128
def NmB (s : ByteArray) : Prop := ∀ x ∈ s.data.toList, letB x
theorem NmB.asc {s : ByteArray} (h : NmB s) : Asc s := fun x hx => by rcases h x hx with rfl | rfl | rfl | rfl <;> decide
theorem asc_byte {s : ByteArray} (h : Asc s) (i : Nat) (hi : i < s.size) : 0 < (s[i]'hi).toNat ∧ (s[i]'hi).toNat < 128 := by
  refine h _ ?_
  have h2 := Lib.data_getElem? s i hi
  exact List.mem_of_getElem? h2
theorem asc_ext {s : ByteArray} (h : Asc s) (a b : Nat) : Asc (s.extract a b) := fun x hx => by
  rw [Lib.extract_eq] at hx
  exact h x (List.mem_of_mem_drop (List.mem_of_mem_take hx))
theorem sign_asc {s : ByteArray} {v n : Nat} (hs : 0 < s.size) (ha : Asc s) (h : SignW s v n) : 0 < v ∧ n = 1 := by
  have hb : byteAt s 0 < 128 ∧ 0 < byteAt s 0 := by
    obtain ⟨h1, h2⟩ := asc_byte ha 0 hs
    have he : byteAt s 0 = (s[0]'hs).toNat := by
      unfold byteAt
      have h2 := Lib.data_getElem? s 0 hs
      first
        | rw [List.getD_eq_getElem?_getD, h2]; rfl
        | (simp [h2]; done)
        | (simp [ByteArray.get!, getElem!_pos, hs]; rfl)
    omega
  cases h with
  | none h => omega
  | one h h1 => exact ⟨hb.2, rfl⟩
  | first h h1 h2 => omega
  | short m h h1 h2 h0 h3 => omega
  | cont m k h h1 h2 h3 k1 k2 h4 => omega
  | bad m h h1 h2 h0 h3 h4 h5 => omega
  | good m h h1 h2 h0 h3 h4 h5 => omega
theorem good_asc {s : ByteArray} {b : Bool} (h : GoodW s b) : Asc s → b = true := by
  induction h with
  | nil s h => exact fun _ => rfl
  | bad s v n h h1 h2 => intro ha; obtain ⟨h3, h4⟩ := sign_asc h ha h1; omega
  | step s v n b h h1 h2 h3 h4 ih => exact fun ha => ih (asc_ext ha _ _)
theorem goodx_calls (s : ByteArray) (w : World) (ha : Asc s) (hz : s.size ≤ 1000) : Calls Tryz.prog 177 #[.string s] w fun e w' => e = .returned (.bool true) ∧ Below w.heap.size w w' := by
  refine (good_calls s w).mono ?_
  rintro e w' ⟨b, rfl, h1, h2, h3⟩
  obtain rfl := good_asc (h1 (by omega)) ha
  exact ⟨rfl, h3⟩
theorem no_slash (l : List UInt8) (h : 47 ∉ l) : Lib.countByte l 47 = 0 := by
  induction l with
  | nil => rfl
  | cons x l ih =>
    have h1 : ¬ x = 47 := fun e => h (by rw [e]; simp)
    have h2 := ih (fun e => h (by simp [e]))
    simp [Lib.countByte, h1] at h2 ⊢
    first | exact h2 | (intro y hy; exact h2 y hy) | omega
theorem isE (s : ByteArray) (h : 0 < s.size) : s.toList.isEmpty = false := by
  rw [Lib.toList_data]
  cases e : s.data.toList with
  | nil => have := Lib.size_eq s; rw [e, List.length_nil] at this; omega
  | cons _ _ => rfl
set_option maxHeartbeats 2000000 in
theorem text1_calls (s : ByteArray) (w : World) (h0 : 0 < s.size) (hz : s.size ≤ 1000) (ha : Asc s) (hs : 47 ∉ s.data.toList) : Calls Tryz.prog 141 #[.string s] w fun e w' => e = .returned (.bool true) ∧ Below w.heap.size w w' := by
  have HG := Lib.hid (fun W => goodx_calls s W ha hz)
  have hc := no_slash _ hs
  have HC := Lib.hid (fun W => Tryz.strings_Count_one s 47 W)
  rw [hc] at HC
  have hem := isE s h0
  clear ha hs h0 hz hc
  go_enter Tryz.func141, Tryz.ntmps141
  go_wp2_with (first
    | (go_at_call 177; (with_reducible refine (HG.out _).mono ?_); rintro e w1 ⟨rfl, hb⟩; have HB1 := Lib.hid hb; clear hb)
    | (go_at_call 137; (with_reducible refine (HC.out _).mono ?_); rintro e w2 ⟨rfl, rfl⟩))
  go_ret
  exact ⟨rfl, HB1.out⟩
theorem let_idx {x : UInt8} (h : letB x) : Lib.indexByte [43, 35] x = -1 := by rcases h with rfl | rfl | rfl | rfl <;> decide
theorem let_lt {x : UInt8} (h : letB x) : x.toNat < 128 := by rcases h with rfl | rfl | rfl | rfl <;> decide
set_option maxHeartbeats 2000000 in
theorem irune_calls (x : UInt8) (h : letB x) (w : World) : Calls Tryz.prog 237 #[.string ⟨#[43, 35]⟩, .int .i32 x.toNat] w fun e w' => e = .returned (.int .i64 (-1)) ∧ w' = w := by
  have HB := Lib.hid (fun W => Tryz.strings_IndexByte ⟨#[43, 35]⟩ x.toNat W)
  have hback : ((x.toNat : Int)).toNat.toUInt8 = x := by simp
  rw [hback, show (⟨#[43, 35]⟩ : ByteArray).data.toList = [43, 35] from rfl, let_idx h] at HB
  have h1 : (0 : Int) ≤ x.toNat := by omega
  have h2 : (x.toNat : Int) < 128 := by have := let_lt h; omega
  have h3 : ((x.toNat : Int)) % 256 = x.toNat := by omega
  have d1 : decide ((0 : Int) ≤ x.toNat) = true := decide_eq_true h1
  have d2 : decide ((x.toNat : Int) < 128) = true := decide_eq_true h2
  clear hback
  generalize (x.toNat : Int) = r at *
  clear h
  go_enter Tryz.func237, Tryz.ntmps237
  go_wp2_with (first
    | (go_at_call 181; (with_reducible refine (HB.out _).mono ?_); rintro e w2 ⟨rfl, rfl⟩))
  go_ret
  exact ⟨rfl, rfl⟩
theorem should_calls (n : Int) (w : World) (h : decide ((8 : Int) < n) = false) : Calls Tryz.prog 238 #[.int .i64 n] w fun e w' => e = .returned (.bool false) ∧ w' = w := by
  go_enter Tryz.func238, Tryz.ntmps238
  go_wp2
  go_ret
  exact ⟨h ▸ rfl, rfl⟩
set_option maxHeartbeats 4000000 in
theorem iany_calls (s : ByteArray) (w : World) (h8 : s.size ≤ 8) (hn : NmB s) : Calls Tryz.prog 189 #[.string s, .string ⟨#[43, 35]⟩] w fun e w' => e = .returned (.int .i64 (-1)) ∧ Below w.heap.size w w' := by
  have h8z : decide ((8 : Int) < (s.size : Int)) = false := decide_eq_false (by omega)
  have HN := Lib.hid hn
  have HB := Lib.hid (fun i => show Below w.heap.size w (w.iter s i) from (Below.refl _ _).alloc (Nat.le_refl _) _)
  have HU := Lib.hid (fun W => should_calls s.size W h8z)
  clear hn h8
  go_enter Tryz.func189, Tryz.ntmps189
  go_wp2_with (first
    | (go_at_call 238; (with_reducible refine (HU.out _).mono ?_); rintro e w2 ⟨rfl, hw⟩; have hw := hw.symm; subst hw))
  go_loopg [9, 10] s.size (fun g _ _ wx => ∃ i : Nat, i + g = s.size ∧ wx = w.iter s i)
  case atStart => exact ⟨0, by omega, rfl⟩
  case round =>
    obtain ⟨i, hig, rfl⟩ := hrel
    cases gk with
    | zero =>
      obtain rfl : i = s.size := by omega
      have hnx := fun ty => run_next_end (P := Tryz.prog) w s s.size ty (by omega)
      go_wp2
      go_ret
      exact ⟨rfl, HB.out _⟩
    | succ g =>
      have hi : i < s.size := by omega
      obtain ⟨x, hx⟩ : ∃ x, x = s[i]'hi := ⟨_, rfl⟩
      have hl : letB x := HN.out x (by have h2 := Lib.data_getElem? s i hi; rw [← hx] at h2; exact List.mem_of_getElem? h2)
      have hnx := fun ty => run_next_ascii (P := Tryz.prog) w s i ty hi (by rw [← hx]; exact let_lt hl)
      simp only [← hx] at hnx
      have HR := Lib.hid (fun W => irune_calls x hl W)
      clear hl hx
      go_wp2_with (first | (go_at_call 237; (with_reducible refine (HR.out _).mono ?_); rintro e w2 ⟨rfl, hw⟩; have hw := hw.symm; subst hw))
      go_roundg g
      case measure => omega
      case rel => exact ⟨i + 1, by omega, rfl⟩
theorem cany_calls (s : ByteArray) (w : World) (h8 : s.size ≤ 8) (hn : NmB s) : Calls Tryz.prog 142 #[.string s, .string ⟨#[43, 35]⟩] w fun e w' => e = .returned (.bool false) ∧ Below w.heap.size w w' := by
  have H := Lib.hid (fun W => iany_calls s W h8 hn)
  clear h8 hn
  go_enter Tryz.func142, Tryz.ntmps142
  go_wp2_with (first
    | (go_at_call 189; (with_reducible refine (H.out _).mono ?_); rintro e w2 ⟨rfl, hb⟩; have HB := Lib.hid hb; clear hb))
  go_ret
  exact ⟨rfl, HB.out⟩
theorem tname_calls (s : ByteArray) (w : World) (h0 : 0 < s.size) (h8 : s.size ≤ 8) (hn : NmB s) : Calls Tryz.prog 98 #[.string s] w fun e w' => e = .returned (.bool true) ∧ Below w.heap.size w w' := by
  have HT := Lib.hid (fun W => text1_calls s W h0 (by omega) hn.asc (fun h => by rcases hn 47 h with h | h | h | h <;> cases h))
  have HC := Lib.hid (fun W => cany_calls s W h8 hn)
  clear h0 h8 hn
  go_enter Tryz.func98, Tryz.ntmps98
  go_wp2_with (first
    | (go_at_call 141; (with_reducible refine (HT.out _).mono ?_); rintro e w2 ⟨rfl, hb⟩; have HB := Lib.hid hb; clear hb)
    | (go_at_call 142; (with_reducible refine (HC.out _).mono ?_); rintro e w3 ⟨rfl, hb⟩; have HB3 := Lib.hid (HB.out.trans (hb.mono HB.out.size)); clear hb))
  go_ret
  exact ⟨rfl, HB3.out⟩
end Go.Proofs.YtbfgpkogginmjaaGreatDoor
end

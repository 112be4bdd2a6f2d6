/- Parts of a proof about aliases: GA. -/
import Derived.Lib.Hide
import Derived.Below
import Derived.Deep.LoopGhost
import Derived.Lib.IndexBytes
import Derived.Outline
import Derived.WalkMore
import Derived.Deep.QuietTactic
import Derived.BigQuiet
import Derived.Laws.BitsLemmas
import Derived.Lib.SplitLaws
import Derived.Lib.CutLaws
import Derived.Test.YtbfgpkogginmjaaGreatDoorZ1
import Derived.Test.YtbfgpkogginmjaaGreatDoorZ3
section
namespace Go.Proofs.YtbfgpkogginmjaaGreatDoor
open Go.RowKit Go.Lib
set_option linter.unusedVariables false
set_option linter.unusedSimpArgs false
theorem get!_of {s : ByteArray} {k : Nat} {x : UInt8} (h : s.data.toList[k]? = some x) : s.get! k = x := by
  have hk : k < s.size := by
    rw [Lib.size_eq]
    exact (List.getElem?_eq_some_iff.1 h).1
  have h2 := Lib.data_getElem? s k hk
  rw [h2] at h
  have e : s.get! k = s[k]'hk := by
    show s.get! k = _
    simp [ByteArray.get!, getElem!_pos, hk]
    rfl
  rw [e]
  exact Option.some.inj h
theorem extract_from (s : ByteArray) (k : Nat) : s.extract k s.size = ⟨(s.data.toList.drop k).toArray⟩ := by
  rw [Lib.extract_eq, Lib.size_eq, List.take_of_length_le (by simp)]
theorem below_alloc {n : Nat} {w w1 : World} (h : Below n w w1) (hn : n ≤ w1.heap.size) (o : Obj) : Below n w (w1.alloc o) := h.alloc hn o
theorem info9 : (Tryz.prog.info? 9).map (fun i => (i.zero, i.size, i.bytes)) = some (some (.string ⟨#[]⟩), 1, 16) := by kernel_rfl
def byteAt (s : ByteArray) (k : Nat) : Nat := (s.get! k).toNat
def signN (c : Nat) : Nat := if c / 32 = 6 then 2 else if c / 16 = 14 then 3 else if c / 8 = 30 then 4 else 0
def firstV (c n : Nat) : Nat := if n = 2 then c % 32 else if n = 3 then c % 16 else c % 8
def valW (s : ByteArray) (v0 : Nat) : Nat → Nat
  | 0 => v0
  | k + 1 => valW s v0 k * 64 + byteAt s (k + 1) % 64
def leastV (n : Nat) : Nat := if n = 2 then 128 else if n = 3 then 2048 else 65536
def contOk (s : ByteArray) (n : Nat) : Prop := ∀ k, 1 ≤ k → k < n → byteAt s k / 64 = 2
def badV (n v : Nat) : Prop := v < leastV n ∨ 1114111 < v ∨ (55296 ≤ v ∧ v ≤ 57343)
inductive SignW (s : ByteArray) : Nat → Nat → Prop
  | none (h : s.size = 0) : SignW s 0 0
  | one (h : 0 < s.size) (h1 : byteAt s 0 < 128) : SignW s (byteAt s 0) 1
  | first (h : 0 < s.size) (h1 : 128 ≤ byteAt s 0) (h2 : signN (byteAt s 0) = 0) : SignW s 0 0
  | short (n : Nat) (h : 0 < s.size) (h1 : 128 ≤ byteAt s 0) (h2 : signN (byteAt s 0) = n) (h0 : 0 < n) (h3 : s.size < n) : SignW s 0 0
  | cont (n k : Nat) (h : 0 < s.size) (h1 : 128 ≤ byteAt s 0) (h2 : signN (byteAt s 0) = n) (h3 : n ≤ s.size) (k1 : 1 ≤ k) (k2 : k < n) (h4 : byteAt s k / 64 ≠ 2) : SignW s 0 0
  | bad (n : Nat) (h : 0 < s.size) (h1 : 128 ≤ byteAt s 0) (h2 : signN (byteAt s 0) = n) (h0 : 0 < n) (h3 : n ≤ s.size) (h4 : contOk s n) (h5 : badV n (valW s (firstV (byteAt s 0) n) (n - 1))) : SignW s 0 0
  | good (n : Nat) (h : 0 < s.size) (h1 : 128 ≤ byteAt s 0) (h2 : signN (byteAt s 0) = n) (h0 : 0 < n) (h3 : n ≤ s.size) (h4 : contOk s n) (h5 : ¬ badV n (valW s (firstV (byteAt s 0) n) (n - 1))) : SignW s (valW s (firstV (byteAt s 0) n) (n - 1)) n
theorem signN_2 {c : Nat} (h : signN c = 2) : c / 32 = 6 := by
  unfold signN at h
  by_cases h1 : c / 32 = 6
  · exact h1
  · rw [if_neg h1] at h
    by_cases h2 : c / 16 = 14
    · rw [if_pos h2] at h; omega
    · rw [if_neg h2] at h
      by_cases h3 : c / 8 = 30
      · rw [if_pos h3] at h; omega
      · rw [if_neg h3] at h; omega
theorem signN_3 {c : Nat} (h : signN c = 3) : c / 32 ≠ 6 ∧ c / 16 = 14 := by
  unfold signN at h
  by_cases h1 : c / 32 = 6
  · rw [if_pos h1] at h; omega
  · rw [if_neg h1] at h
    by_cases h2 : c / 16 = 14
    · exact ⟨h1, h2⟩
    · rw [if_neg h2] at h
      by_cases h3 : c / 8 = 30
      · rw [if_pos h3] at h; omega
      · rw [if_neg h3] at h; omega
theorem signN_4 {c : Nat} (h : signN c = 4) : c / 32 ≠ 6 ∧ c / 16 ≠ 14 ∧ c / 8 = 30 := by
  unfold signN at h
  by_cases h1 : c / 32 = 6
  · rw [if_pos h1] at h; omega
  · rw [if_neg h1] at h
    by_cases h2 : c / 16 = 14
    · rw [if_pos h2] at h; omega
    · rw [if_neg h2] at h
      by_cases h3 : c / 8 = 30
      · exact ⟨h1, h2, h3⟩
      · rw [if_neg h3] at h; omega
theorem signN_0 {c : Nat} (h : signN c = 0) : c / 32 ≠ 6 ∧ c / 16 ≠ 14 ∧ c / 8 ≠ 30 := by
  unfold signN at h
  by_cases h1 : c / 32 = 6
  · rw [if_pos h1] at h; omega
  · rw [if_neg h1] at h
    by_cases h2 : c / 16 = 14
    · rw [if_pos h2] at h; omega
    · rw [if_neg h2] at h
      by_cases h3 : c / 8 = 30
      · rw [if_pos h3] at h; omega
      · exact ⟨h1, h2, h3⟩
theorem byteAt_of {s : ByteArray} {k : Nat} (h : k < s.size) : byteAt s k = (s[k]'h).toNat := by
  unfold byteAt
  rw [get!_of (Lib.data_getElem? s k h)]
theorem valW_lt (s : ByteArray) (v0 : Nat) (h : v0 < 32) (k : Nat) : valW s v0 k < 32 * 64 ^ k := by
  induction k with
  | zero => simpa [valW] using h
  | succ k ih =>
    unfold valW
    rw [Nat.pow_succ]
    omega
theorem valW_lt3 (s : ByteArray) (v0 : Nat) (h : v0 < 32) (k : Nat) (hk : k ≤ 2) : valW s v0 k < 131072 + 1 := by
  have := valW_lt s v0 h k
  rcases (show k = 0 ∨ k = 1 ∨ k = 2 by omega) with rfl | rfl | rfl <;> omega
theorem or_step (V m : Nat) (hV : V < 131072 + 1) (hm : m < 64) : bits BinOp.or IntKind.i32 (wrap32 ((V : Int) * 64)) (wrap32 (m : Int)) = ((V * 64 + m : Nat) : Int) ∧ bits BinOp.or IntKind.i32 ((V : Int) * 64) (m : Int) = ((V * 64 + m : Nat) : Int) ∧ bits BinOp.or IntKind.i32 (wrap32 ((V : Int) * 64)) (m : Int) = ((V * 64 + m : Nat) : Int) ∧ bits BinOp.or IntKind.i32 ((V : Int) * 64) (wrap32 (m : Int)) = ((V * 64 + m : Nat) : Int) := by
  have e1 : wrap32 ((V : Int) * 64) = (V : Int) * 64 := by unfold wrap32; omega
  have e2 : wrap32 (m : Int) = (m : Int) := by unfold wrap32; omega
  have e : bits BinOp.or IntKind.i32 ((V : Int) * 64) (m : Int) = ((V * 64 + m : Nat) : Int) := by
    rw [i32_or6 _ _ (by omega) (by omega) (by omega) (by omega) (by omega)]
    push_cast; rfl
  rw [e1, e2]
  exact ⟨e, e, e, e⟩
theorem bad_of {n V : Nat} (l : Nat) (hl : leastV n = l) (h : (V : Int) < (l : Int) ∨ (1114111 : Int) < V ∨ (55296 ≤ (V : Int) ∧ (V : Int) ≤ 57343)) : badV n V := by
  unfold badV
  rw [hl]
  omega
theorem good_of {n V : Nat} (l : Nat) (hl : leastV n = l) (h : ¬ ((V : Int) < (l : Int) ∨ (1114111 : Int) < V ∨ (55296 ≤ (V : Int) ∧ (V : Int) ≤ 57343))) : ¬ badV n V := by
  unfold badV
  rw [hl]
  omega
theorem and_first (x n : Nat) (hx : x < 256) (hn : n = 2 ∨ n = 3 ∨ n = 4) : bits BinOp.and IntKind.i32 (x : Int) (if n = 2 then 31 else if n = 3 then 15 else 7) = (firstV x n : Nat) := by
  have h : ∀ x : Nat, x < 256 → bits BinOp.and IntKind.i32 (x : Int) 31 = (firstV x 2 : Nat) ∧ bits BinOp.and IntKind.i32 (x : Int) 15 = (firstV x 3 : Nat) ∧ bits BinOp.and IntKind.i32 (x : Int) 7 = (firstV x 4 : Nat) := by decide +kernel
  rcases hn with rfl | rfl | rfl
  · exact (h x hx).1
  · exact (h x hx).2.1
  · exact (h x hx).2.2
def SignPost (s : ByteArray) (w : World) (e : Ending) (w' : World) : Prop := ∃ v n, e = .returned (.tuple #[.int .i32 (v : Nat), .int .i64 (n : Nat)]) ∧ SignW s v n ∧ Below w.heap.size w w'
set_option maxHeartbeats 2000000 in
set_option maxRecDepth 1000000 in
theorem sign_2 (s : ByteArray) (w : World) (x : UInt8) (h0 : 0 < s.size) (hx : s[0]'h0 = x) (hc : ¬ (x.toNat : Int) < 128) (hN : signN x.toNat = 2) :
    Calls Tryz.prog 14 #[.string s] w (SignPost s w) := by
  have hb := Lib.hid (Below.refl w.heap.size w)
  have hne : s.toList.isEmpty = false := by
    rw [Lib.toList_data]
    cases h : s.data.toList with
    | nil => have := Lib.size_eq s; rw [h, List.length_nil] at this; omega
    | cons _ _ => rfl
  have hx256 : x.toNat < 256 := x.toNat_lt
  have hb0 : byteAt s 0 = x.toNat := by rw [byteAt_of h0, hx]
  have H128 := Lib.hid (show 128 ≤ byteAt s 0 by omega)
  have HN := Lib.hid (show signN (byteAt s 0) = 2 by rw [hb0]; exact hN)
  have HF := Lib.hid (show firstV (byteAt s 0) 2 = firstV x.toNat 2 by rw [hb0])
  have hq1 : ((x.toNat : Int) / 32 == 6) = true := beq_iff_eq.2 (by have := signN_2 hN; omega)
  have hv0 : bits BinOp.and IntKind.i32 (x.toNat : Int) 31 = ((firstV x.toNat 2 : Nat) : Int) := and_first x.toNat 2 hx256 (by omega)
  clear hb0 hN
  obtain ⟨v0, hv⟩ : ∃ v0, firstV x.toNat 2 = v0 := ⟨_, rfl⟩
  have hv32 : v0 < 32 := by rw [← hv]; unfold firstV; split <;> (try split) <;> omega
  rw [hv] at hv0 HF
  clear hv
  by_cases hs : (s.size : Int) < 2
  · go_enter Tryz.func14, Tryz.ntmps14
    go_wp2
    go_ret2
    exact ⟨0, 0, rfl, .short 2 h0 H128.out HN.out (by omega) (by omega), hb.out⟩
  · go_enter Tryz.func14, Tryz.ntmps14
    go_wp2
    go_loopg [6, 7] 2 (fun g v i wx => ∃ k : Nat, (1 ≤ k ∧ k ≤ 2) ∧ k + g = 2 + 1 ∧ i = .int .i64 k ∧ v = .int .i32 ((valW s v0 (k - 1) : Nat) : Int) ∧ wx = w ∧ Hid (contOk s k))
    case atStart => exact ⟨1, by omega, by omega, rfl, rfl, rfl, fun k h1 h2 => by omega⟩
    case round =>
      obtain ⟨k, ⟨hk1, hkn⟩, hkg, rfl, rfl, rfl, hco⟩ := hrel
      by_cases hk : k < 2
      · obtain ⟨g, rfl⟩ : ∃ g, gk = g + 1 := ⟨gk - 1, by omega⟩
        have hks : k < s.size := by omega
        obtain ⟨y, hy⟩ : ∃ y, s[k]'hks = y := ⟨_, rfl⟩
        have hy0 := Lib.hid (show byteAt s k = y.toNat by rw [byteAt_of hks, hy])
        have hstep := Lib.hid (show valW s v0 k = valW s v0 (k - 1) * 64 + y.toNat % 64 by
          obtain ⟨j, rfl⟩ : ∃ j, k = j + 1 := ⟨k - 1, by omega⟩
          rw [← hy0.out]; rfl)
        have hvl : valW s v0 (k - 1) < 131072 + 1 := valW_lt3 s v0 hv32 (k - 1) (by omega)
        obtain ⟨m, hm⟩ : ∃ m, y.toNat % 64 = m := ⟨_, rfl⟩
        have hm64 : m < 64 := by omega
        have hy63 : bits BinOp.and IntKind.u8 (y.toNat : Int) 63 = (m : Int) := by rw [u8_and63 _ (by omega) (by have := y.toNat_lt; omega)]; omega
        rw [hm] at hstep
        have HM := Lib.hid hm
        clear hm
        obtain ⟨V, hV⟩ : ∃ V, valW s v0 (k - 1) = V := ⟨_, rfl⟩
        have HV := Lib.hid hV
        rw [hV] at hstep hvl ⊢
        clear hV
        obtain ⟨or1, or2, or3, or4⟩ := or_step V m hvl hm64
        by_cases hyc : (y.toNat : Int) / 64 = 2
        · have hyb : ((y.toNat : Int) / 64 != 2) = false := by rw [hyc]; rfl
          have HY := Lib.hid hyc
          clear hyc
          go_wp2
          go_roundg g
          case measure => omega
          case rel =>
            refine ⟨k + 1, by omega, by omega, by go_num, ?_, rfl, Lib.hid fun j h1 h2 => ?_⟩
            · rw [Nat.add_sub_cancel, hstep.out]; push_cast; rfl
            · by_cases hj : j < k
              · exact hco.out j h1 hj
              · obtain rfl : j = k := by omega
                have := HY.out
                rw [hy0.out]; omega
        · have hyb : ((y.toNat : Int) / 64 != 2) = true := by simpa [bne, beq_eq_false_iff_ne] using hyc
          have HY := Lib.hid hyc
          clear hyc
          go_wp2
          go_ret2
          exact ⟨0, 0, rfl, .cont 2 k h0 H128.out HN.out (by omega) hk1 hk (by have := HY.out; rw [hy0.out]; omega), hb.out⟩
      · obtain rfl : k = 2 := by omega
        have HC := Lib.hid hco.out
        clear hco
        have HBD := Lib.hid (fun (h : (((valW s v0 (2 - 1) : Nat) : Int) < ((128 : Nat) : Int) ∨ (1114111 : Int) < ((valW s v0 (2 - 1) : Nat) : Int) ∨ (55296 ≤ ((valW s v0 (2 - 1) : Nat) : Int) ∧ ((valW s v0 (2 - 1) : Nat) : Int) ≤ 57343))) => SignW.bad 2 h0 H128.out HN.out (by omega) (by omega) HC.out (by rw [HF.out]; exact bad_of (n := 2) 128 rfl h))
        have HGD := Lib.hid (fun (h : ¬ (((valW s v0 (2 - 1) : Nat) : Int) < ((128 : Nat) : Int) ∨ (1114111 : Int) < ((valW s v0 (2 - 1) : Nat) : Int) ∨ (55296 ≤ ((valW s v0 (2 - 1) : Nat) : Int) ∧ ((valW s v0 (2 - 1) : Nat) : Int) ≤ 57343))) => show SignW s (valW s v0 (2 - 1)) 2 by have := SignW.good 2 h0 H128.out HN.out (by omega) (by omega) HC.out (by rw [HF.out]; exact good_of (n := 2) 128 rfl h); rw [HF.out] at this; exact this)
        generalize valW s v0 (2 - 1) = V at HBD HGD ⊢
        go_wp2
        all_goals
          first
          | (have hbad := HBD.out (by omega); go_ret2; exact ⟨0, 0, rfl, hbad, below_alloc hb.out (Nat.le_refl _) _⟩)
          | (have hgood := HGD.out (by omega); go_ret2; exact ⟨V, 2, rfl, hgood, below_alloc hb.out (Nat.le_refl _) _⟩)
set_option maxHeartbeats 2000000 in
set_option maxRecDepth 1000000 in
theorem sign_3 (s : ByteArray) (w : World) (x : UInt8) (h0 : 0 < s.size) (hx : s[0]'h0 = x) (hc : ¬ (x.toNat : Int) < 128) (hN : signN x.toNat = 3) :
    Calls Tryz.prog 14 #[.string s] w (SignPost s w) := by
  have hb := Lib.hid (Below.refl w.heap.size w)
  have hne : s.toList.isEmpty = false := by
    rw [Lib.toList_data]
    cases h : s.data.toList with
    | nil => have := Lib.size_eq s; rw [h, List.length_nil] at this; omega
    | cons _ _ => rfl
  have hx256 : x.toNat < 256 := x.toNat_lt
  have hb0 : byteAt s 0 = x.toNat := by rw [byteAt_of h0, hx]
  have H128 := Lib.hid (show 128 ≤ byteAt s 0 by omega)
  have HN := Lib.hid (show signN (byteAt s 0) = 3 by rw [hb0]; exact hN)
  have HF := Lib.hid (show firstV (byteAt s 0) 3 = firstV x.toNat 3 by rw [hb0])
  have hq1 : ((x.toNat : Int) / 32 == 6) = false := beq_eq_false_iff_ne.2 (by have := (signN_3 hN).1; omega)
  have hq2 : ((x.toNat : Int) / 16 == 14) = true := beq_iff_eq.2 (by have := (signN_3 hN).2; omega)
  have hv0 : bits BinOp.and IntKind.i32 (x.toNat : Int) 15 = ((firstV x.toNat 3 : Nat) : Int) := and_first x.toNat 3 hx256 (by omega)
  clear hb0 hN
  obtain ⟨v0, hv⟩ : ∃ v0, firstV x.toNat 3 = v0 := ⟨_, rfl⟩
  have hv32 : v0 < 32 := by rw [← hv]; unfold firstV; split <;> (try split) <;> omega
  rw [hv] at hv0 HF
  clear hv
  by_cases hs : (s.size : Int) < 3
  · go_enter Tryz.func14, Tryz.ntmps14
    go_wp2
    go_ret2
    exact ⟨0, 0, rfl, .short 3 h0 H128.out HN.out (by omega) (by omega), hb.out⟩
  · go_enter Tryz.func14, Tryz.ntmps14
    go_wp2
    go_loopg [6, 7] 3 (fun g v i wx => ∃ k : Nat, (1 ≤ k ∧ k ≤ 3) ∧ k + g = 3 + 1 ∧ i = .int .i64 k ∧ v = .int .i32 ((valW s v0 (k - 1) : Nat) : Int) ∧ wx = w ∧ Hid (contOk s k))
    case atStart => exact ⟨1, by omega, by omega, rfl, rfl, rfl, fun k h1 h2 => by omega⟩
    case round =>
      obtain ⟨k, ⟨hk1, hkn⟩, hkg, rfl, rfl, rfl, hco⟩ := hrel
      by_cases hk : k < 3
      · obtain ⟨g, rfl⟩ : ∃ g, gk = g + 1 := ⟨gk - 1, by omega⟩
        have hks : k < s.size := by omega
        obtain ⟨y, hy⟩ : ∃ y, s[k]'hks = y := ⟨_, rfl⟩
        have hy0 := Lib.hid (show byteAt s k = y.toNat by rw [byteAt_of hks, hy])
        have hstep := Lib.hid (show valW s v0 k = valW s v0 (k - 1) * 64 + y.toNat % 64 by
          obtain ⟨j, rfl⟩ : ∃ j, k = j + 1 := ⟨k - 1, by omega⟩
          rw [← hy0.out]; rfl)
        have hvl : valW s v0 (k - 1) < 131072 + 1 := valW_lt3 s v0 hv32 (k - 1) (by omega)
        obtain ⟨m, hm⟩ : ∃ m, y.toNat % 64 = m := ⟨_, rfl⟩
        have hm64 : m < 64 := by omega
        have hy63 : bits BinOp.and IntKind.u8 (y.toNat : Int) 63 = (m : Int) := by rw [u8_and63 _ (by omega) (by have := y.toNat_lt; omega)]; omega
        rw [hm] at hstep
        have HM := Lib.hid hm
        clear hm
        obtain ⟨V, hV⟩ : ∃ V, valW s v0 (k - 1) = V := ⟨_, rfl⟩
        have HV := Lib.hid hV
        rw [hV] at hstep hvl ⊢
        clear hV
        obtain ⟨or1, or2, or3, or4⟩ := or_step V m hvl hm64
        by_cases hyc : (y.toNat : Int) / 64 = 2
        · have hyb : ((y.toNat : Int) / 64 != 2) = false := by rw [hyc]; rfl
          have HY := Lib.hid hyc
          clear hyc
          go_wp2
          go_roundg g
          case measure => omega
          case rel =>
            refine ⟨k + 1, by omega, by omega, by go_num, ?_, rfl, Lib.hid fun j h1 h2 => ?_⟩
            · rw [Nat.add_sub_cancel, hstep.out]; push_cast; rfl
            · by_cases hj : j < k
              · exact hco.out j h1 hj
              · obtain rfl : j = k := by omega
                have := HY.out
                rw [hy0.out]; omega
        · have hyb : ((y.toNat : Int) / 64 != 2) = true := by simpa [bne, beq_eq_false_iff_ne] using hyc
          have HY := Lib.hid hyc
          clear hyc
          go_wp2
          go_ret2
          exact ⟨0, 0, rfl, .cont 3 k h0 H128.out HN.out (by omega) hk1 hk (by have := HY.out; rw [hy0.out]; omega), hb.out⟩
      · obtain rfl : k = 3 := by omega
        have HC := Lib.hid hco.out
        clear hco
        have HBD := Lib.hid (fun (h : (((valW s v0 (3 - 1) : Nat) : Int) < ((2048 : Nat) : Int) ∨ (1114111 : Int) < ((valW s v0 (3 - 1) : Nat) : Int) ∨ (55296 ≤ ((valW s v0 (3 - 1) : Nat) : Int) ∧ ((valW s v0 (3 - 1) : Nat) : Int) ≤ 57343))) => SignW.bad 3 h0 H128.out HN.out (by omega) (by omega) HC.out (by rw [HF.out]; exact bad_of (n := 3) 2048 rfl h))
        have HGD := Lib.hid (fun (h : ¬ (((valW s v0 (3 - 1) : Nat) : Int) < ((2048 : Nat) : Int) ∨ (1114111 : Int) < ((valW s v0 (3 - 1) : Nat) : Int) ∨ (55296 ≤ ((valW s v0 (3 - 1) : Nat) : Int) ∧ ((valW s v0 (3 - 1) : Nat) : Int) ≤ 57343))) => show SignW s (valW s v0 (3 - 1)) 3 by have := SignW.good 3 h0 H128.out HN.out (by omega) (by omega) HC.out (by rw [HF.out]; exact good_of (n := 3) 2048 rfl h); rw [HF.out] at this; exact this)
        generalize valW s v0 (3 - 1) = V at HBD HGD ⊢
        go_wp2
        all_goals
          first
          | (have hbad := HBD.out (by omega); go_ret2; exact ⟨0, 0, rfl, hbad, below_alloc hb.out (Nat.le_refl _) _⟩)
          | (have hgood := HGD.out (by omega); go_ret2; exact ⟨V, 3, rfl, hgood, below_alloc hb.out (Nat.le_refl _) _⟩)
set_option maxHeartbeats 2000000 in
set_option maxRecDepth 1000000 in
theorem sign_4 (s : ByteArray) (w : World) (x : UInt8) (h0 : 0 < s.size) (hx : s[0]'h0 = x) (hc : ¬ (x.toNat : Int) < 128) (hN : signN x.toNat = 4) :
    Calls Tryz.prog 14 #[.string s] w (SignPost s w) := by
  have hb := Lib.hid (Below.refl w.heap.size w)
  have hne : s.toList.isEmpty = false := by
    rw [Lib.toList_data]
    cases h : s.data.toList with
    | nil => have := Lib.size_eq s; rw [h, List.length_nil] at this; omega
    | cons _ _ => rfl
  have hx256 : x.toNat < 256 := x.toNat_lt
  have hb0 : byteAt s 0 = x.toNat := by rw [byteAt_of h0, hx]
  have H128 := Lib.hid (show 128 ≤ byteAt s 0 by omega)
  have HN := Lib.hid (show signN (byteAt s 0) = 4 by rw [hb0]; exact hN)
  have HF := Lib.hid (show firstV (byteAt s 0) 4 = firstV x.toNat 4 by rw [hb0])
  have hq1 : ((x.toNat : Int) / 32 == 6) = false := beq_eq_false_iff_ne.2 (by have := (signN_4 hN).1; omega)
  have hq2 : ((x.toNat : Int) / 16 == 14) = false := beq_eq_false_iff_ne.2 (by have := (signN_4 hN).2.1; omega)
  have hq3 : ((x.toNat : Int) / 8 == 30) = true := beq_iff_eq.2 (by have := (signN_4 hN).2.2; omega)
  have hv0 : bits BinOp.and IntKind.i32 (x.toNat : Int) 7 = ((firstV x.toNat 4 : Nat) : Int) := and_first x.toNat 4 hx256 (by omega)
  clear hb0 hN
  obtain ⟨v0, hv⟩ : ∃ v0, firstV x.toNat 4 = v0 := ⟨_, rfl⟩
  have hv32 : v0 < 32 := by rw [← hv]; unfold firstV; split <;> (try split) <;> omega
  rw [hv] at hv0 HF
  clear hv
  by_cases hs : (s.size : Int) < 4
  · go_enter Tryz.func14, Tryz.ntmps14
    go_wp2
    go_ret2
    exact ⟨0, 0, rfl, .short 4 h0 H128.out HN.out (by omega) (by omega), hb.out⟩
  · go_enter Tryz.func14, Tryz.ntmps14
    go_wp2
    go_loopg [6, 7] 4 (fun g v i wx => ∃ k : Nat, (1 ≤ k ∧ k ≤ 4) ∧ k + g = 4 + 1 ∧ i = .int .i64 k ∧ v = .int .i32 ((valW s v0 (k - 1) : Nat) : Int) ∧ wx = w ∧ Hid (contOk s k))
    case atStart => exact ⟨1, by omega, by omega, rfl, rfl, rfl, fun k h1 h2 => by omega⟩
    case round =>
      obtain ⟨k, ⟨hk1, hkn⟩, hkg, rfl, rfl, rfl, hco⟩ := hrel
      by_cases hk : k < 4
      · obtain ⟨g, rfl⟩ : ∃ g, gk = g + 1 := ⟨gk - 1, by omega⟩
        have hks : k < s.size := by omega
        obtain ⟨y, hy⟩ : ∃ y, s[k]'hks = y := ⟨_, rfl⟩
        have hy0 := Lib.hid (show byteAt s k = y.toNat by rw [byteAt_of hks, hy])
        have hstep := Lib.hid (show valW s v0 k = valW s v0 (k - 1) * 64 + y.toNat % 64 by
          obtain ⟨j, rfl⟩ : ∃ j, k = j + 1 := ⟨k - 1, by omega⟩
          rw [← hy0.out]; rfl)
        have hvl : valW s v0 (k - 1) < 131072 + 1 := valW_lt3 s v0 hv32 (k - 1) (by omega)
        obtain ⟨m, hm⟩ : ∃ m, y.toNat % 64 = m := ⟨_, rfl⟩
        have hm64 : m < 64 := by omega
        have hy63 : bits BinOp.and IntKind.u8 (y.toNat : Int) 63 = (m : Int) := by rw [u8_and63 _ (by omega) (by have := y.toNat_lt; omega)]; omega
        rw [hm] at hstep
        have HM := Lib.hid hm
        clear hm
        obtain ⟨V, hV⟩ : ∃ V, valW s v0 (k - 1) = V := ⟨_, rfl⟩
        have HV := Lib.hid hV
        rw [hV] at hstep hvl ⊢
        clear hV
        obtain ⟨or1, or2, or3, or4⟩ := or_step V m hvl hm64
        by_cases hyc : (y.toNat : Int) / 64 = 2
        · have hyb : ((y.toNat : Int) / 64 != 2) = false := by rw [hyc]; rfl
          have HY := Lib.hid hyc
          clear hyc
          go_wp2
          go_roundg g
          case measure => omega
          case rel =>
            refine ⟨k + 1, by omega, by omega, by go_num, ?_, rfl, Lib.hid fun j h1 h2 => ?_⟩
            · rw [Nat.add_sub_cancel, hstep.out]; push_cast; rfl
            · by_cases hj : j < k
              · exact hco.out j h1 hj
              · obtain rfl : j = k := by omega
                have := HY.out
                rw [hy0.out]; omega
        · have hyb : ((y.toNat : Int) / 64 != 2) = true := by simpa [bne, beq_eq_false_iff_ne] using hyc
          have HY := Lib.hid hyc
          clear hyc
          go_wp2
          go_ret2
          exact ⟨0, 0, rfl, .cont 4 k h0 H128.out HN.out (by omega) hk1 hk (by have := HY.out; rw [hy0.out]; omega), hb.out⟩
      · obtain rfl : k = 4 := by omega
        have HC := Lib.hid hco.out
        clear hco
        have HBD := Lib.hid (fun (h : (((valW s v0 (4 - 1) : Nat) : Int) < ((65536 : Nat) : Int) ∨ (1114111 : Int) < ((valW s v0 (4 - 1) : Nat) : Int) ∨ (55296 ≤ ((valW s v0 (4 - 1) : Nat) : Int) ∧ ((valW s v0 (4 - 1) : Nat) : Int) ≤ 57343))) => SignW.bad 4 h0 H128.out HN.out (by omega) (by omega) HC.out (by rw [HF.out]; exact bad_of (n := 4) 65536 rfl h))
        have HGD := Lib.hid (fun (h : ¬ (((valW s v0 (4 - 1) : Nat) : Int) < ((65536 : Nat) : Int) ∨ (1114111 : Int) < ((valW s v0 (4 - 1) : Nat) : Int) ∨ (55296 ≤ ((valW s v0 (4 - 1) : Nat) : Int) ∧ ((valW s v0 (4 - 1) : Nat) : Int) ≤ 57343))) => show SignW s (valW s v0 (4 - 1)) 4 by have := SignW.good 4 h0 H128.out HN.out (by omega) (by omega) HC.out (by rw [HF.out]; exact good_of (n := 4) 65536 rfl h); rw [HF.out] at this; exact this)
        generalize valW s v0 (4 - 1) = V at HBD HGD ⊢
        go_wp2
        all_goals
          first
          | (have hbad := HBD.out (by omega); go_ret2; exact ⟨0, 0, rfl, hbad, below_alloc hb.out (Nat.le_refl _) _⟩)
          | (have hgood := HGD.out (by omega); go_ret2; exact ⟨V, 4, rfl, hgood, below_alloc hb.out (Nat.le_refl _) _⟩)
set_option maxHeartbeats 2000000 in
set_option maxRecDepth 1000000 in
theorem sign_calls (s : ByteArray) (w : World) : Calls Tryz.prog 14 #[.string s] w (SignPost s w) := by
  have hb := Lib.hid (Below.refl w.heap.size w)
  by_cases h0 : 0 < s.size
  · obtain ⟨x, hx⟩ : ∃ x, s[0]'h0 = x := ⟨_, rfl⟩
    have hb0 : byteAt s 0 = x.toNat := by rw [byteAt_of h0, hx]
    by_cases hc : (x.toNat : Int) < 128
    · have hne : s.toList.isEmpty = false := by
        rw [Lib.toList_data]
        cases h : s.data.toList with
        | nil => have := Lib.size_eq s; rw [h, List.length_nil] at this; omega
        | cons _ _ => rfl
      have hS := Lib.hid (show SignW s x.toNat 1 by have := SignW.one h0 (by omega); rw [hb0] at this; exact this)
      have hx256 : x.toNat < 256 := x.toNat_lt
      clear hb0
      go_enter Tryz.func14, Tryz.ntmps14
      go_wp2
      go_ret2
      exact ⟨x.toNat, 1, rfl, hS.out, hb.out⟩
    · rcases hN : signN x.toNat with _ | n
      · have hne : s.toList.isEmpty = false := by
          rw [Lib.toList_data]
          cases h : s.data.toList with
          | nil => have := Lib.size_eq s; rw [h, List.length_nil] at this; omega
          | cons _ _ => rfl
        have hS := Lib.hid (SignW.first h0 (by omega) (by rw [hb0]; exact hN))
        have hq1 : ((x.toNat : Int) / 32 == 6) = false := beq_eq_false_iff_ne.2 (by have := (signN_0 hN).1; omega)
        have hq2 : ((x.toNat : Int) / 16 == 14) = false := beq_eq_false_iff_ne.2 (by have := (signN_0 hN).2.1; omega)
        have hq3 : ((x.toNat : Int) / 8 == 30) = false := beq_eq_false_iff_ne.2 (by have := (signN_0 hN).2.2; omega)
        clear hb0 hN
        go_enter Tryz.func14, Tryz.ntmps14
        go_wp2
        go_ret2
        exact ⟨0, 0, rfl, hS.out, hb.out⟩
      · have : n + 1 = 2 ∨ n + 1 = 3 ∨ n + 1 = 4 := by
          rw [← hN]
          unfold signN at hN ⊢
          split <;> (try split) <;> (try split) <;> simp_all
        rcases this with h | h | h
        · exact sign_2 s w x h0 hx hc (hN.trans h)
        · exact sign_3 s w x h0 hx hc (hN.trans h)
        · exact sign_4 s w x h0 hx hc (hN.trans h)
  · have hz : s.size = 0 := by omega
    have hem : s.toList.isEmpty = true := by
      have : s.data.toList = [] := List.length_eq_zero_iff.1 (by rw [← Lib.size_eq]; exact hz)
      rw [Lib.toList_data, this]; rfl
    have hS := Lib.hid (SignW.none hz)
    clear hz h0
    go_enter Tryz.func14, Tryz.ntmps14
    go_wp2
    go_ret2
    exact ⟨0, 0, rfl, hS.out, hb.out⟩
inductive GoodW : ByteArray → Bool → Prop
  | nil (s : ByteArray) (h : s.size = 0) : GoodW s true
  | bad (s : ByteArray) (v n : Nat) (h : 0 < s.size) (h1 : SignW s v n) (h2 : n = 0 ∨ v = 0) : GoodW s false
  | step (s : ByteArray) (v n : Nat) (b : Bool) (h : 0 < s.size) (h1 : SignW s v n) (h2 : n ≠ 0) (h3 : v ≠ 0) (h4 : GoodW (s.extract n s.size) b) : GoodW s b
theorem SignW.le {s : ByteArray} {v n : Nat} (h : SignW s v n) : n ≤ s.size := by
  cases h <;> omega
theorem isEmpty_of (s : ByteArray) (h : 0 < s.size) : s.toList.isEmpty = false := by
  rw [Lib.toList_data]
  cases e : s.data.toList with
  | nil => have := Lib.size_eq s; rw [e, List.length_nil] at this; omega
  | cons _ _ => rfl
theorem isEmpty_nil (s : ByteArray) (h : s.size = 0) : s.toList.isEmpty = true := by
  have : s.data.toList = [] := List.length_eq_zero_iff.1 (by rw [← Lib.size_eq]; exact h)
  rw [Lib.toList_data, this]; rfl
def GoodPost (s : ByteArray) (w : World) (e : Ending) (w' : World) : Prop := ∃ b, e = .returned (.bool b) ∧ (s.size ≤ 65535 → GoodW s b) ∧ (65535 < s.size → b = false) ∧ Below w.heap.size w w'
set_option maxHeartbeats 2000000 in
set_option maxRecDepth 1000000 in
theorem good_calls (s : ByteArray) (w : World) : Calls Tryz.prog 177 #[.string s] w (GoodPost s w) := by
  have hb := Lib.hid (Below.refl w.heap.size w)
  by_cases hs : (65535 : Int) < s.size
  · go_enter Tryz.func177, Tryz.ntmps177
    go_wp2
    go_ret
    exact ⟨false, rfl, fun h => by omega, fun _ => rfl, hb.out⟩
  · have hsz : s.size ≤ 65535 := by omega
    go_enter Tryz.func177, Tryz.ntmps177
    go_wp2_with fail
    go_loopg [0] s.size (fun g v wx => ∃ t : ByteArray, v = .string t ∧ t.size ≤ g ∧ Hid (∀ b, GoodW t b → GoodW s b) ∧ Hid (Below w.heap.size w wx))
    case atStart => exact ⟨s, rfl, Nat.le_refl _, fun b h => h, hb.out⟩
    case round =>
      clear hb
      obtain ⟨t, rfl, htg, hto, hB⟩ := hrel
      by_cases ht : 0 < t.size
      · have hem := isEmpty_of t ht
        obtain ⟨g, rfl⟩ : ∃ g, gk = g + 1 := ⟨gk - 1, by omega⟩
        go_wp2_with (go_at_call 14; refine (sign_calls t _).mono ?_; rintro e w1 hp; obtain ⟨v, n, rfl, hS, hb1⟩ := hp; have HS := Lib.hid hS; have HB1 := Lib.hid hb1; have hle := hS.le; clear hS hb1)
        · go_ret
          exact ⟨false, rfl, fun _ => hto.out _ (.bad t v _ ht HS.out (.inl (by omega))), fun h => by omega, hB.out.trans (HB1.out.mono hB.out.size)⟩
        · go_ret
          exact ⟨false, rfl, fun _ => hto.out _ (.bad t _ n ht HS.out (by
            have h : ((n : Int) == 0) = true ∨ ((v : Int) == 0) = true := by assumption
            rcases h with h | h
            · exact .inl (by have := beq_iff_eq.1 h; omega)
            · exact .inr (by have := beq_iff_eq.1 h; omega))), fun h => by omega, hB.out.trans (HB1.out.mono hB.out.size)⟩
        · have hn0 : n ≠ 0 := by
            rintro rfl
            simp_all
          have hv0 : v ≠ 0 := by
            rintro rfl
            simp_all
          go_roundg g
          case measure => omega
          case rel => exact ⟨t.extract n t.size, rfl, (by rw [ByteArray.size_extract, Nat.min_self]; omega), Lib.hid fun b hb => hto.out b (.step t v n b ht HS.out hn0 hv0 hb), hB.out.trans (HB1.out.mono hB.out.size)⟩
      · have hem := isEmpty_nil t (by omega)
        have HG := Lib.hid (hto.out true (.nil t (by omega)))
        go_wp2
        go_ret
        exact ⟨true, rfl, fun _ => HG.out, fun h => by omega, hB.out⟩
theorem sign_e9 {v n : Nat} (h : SignW ⟨#[195, 169]⟩ v n) : v = 233 ∧ n = 2 := by
  have hz : (⟨#[195, 169]⟩ : ByteArray).size = 2 := rfl
  have b0 : byteAt ⟨#[195, 169]⟩ 0 = 195 := rfl
  have b1 : byteAt ⟨#[195, 169]⟩ 1 = 169 := rfl
  have hn : signN 195 = 2 := rfl
  cases h with
  | none h => rw [hz] at h; cases h
  | one h h1 => rw [b0] at h1; omega
  | first h h1 h2 => rw [b0, hn] at h2; cases h2
  | short m h h1 h2 h0 h3 => rw [b0, hn] at h2; rw [hz] at h3; omega
  | cont m k h h1 h2 h3 k1 k2 h4 =>
    rw [b0, hn] at h2
    obtain rfl : k = 1 := by omega
    rw [b1] at h4
    exact absurd rfl h4
  | bad m h h1 h2 h0 h3 h4 h5 =>
    rw [b0, hn] at h2
    subst h2
    exact absurd h5 (by
      have hv : valW ⟨#[195, 169]⟩ (firstV (byteAt ⟨#[195, 169]⟩ 0) 2) (2 - 1) = 233 := by
        rw [b0]
        show firstV 195 2 * 64 + byteAt ⟨#[195, 169]⟩ 1 % 64 = 233
        rw [b1]
        rfl
      rw [hv]
      unfold badV leastV
      decide)
  | good m h h1 h2 h0 h3 h4 h5 =>
    rw [b0, hn] at h2
    subst h2
    refine ⟨?_, rfl⟩
    rw [b0]
    show firstV 195 2 * 64 + byteAt ⟨#[195, 169]⟩ 1 % 64 = 233
    rw [b1]
    rfl
end Go.Proofs.YtbfgpkogginmjaaGreatDoor
end

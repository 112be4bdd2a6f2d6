/- prop.set, prop.Get: that they return; lists of properties that are gathered. -/
import Derived.Test.YtljbchghbpmghaaGreatDoorS3
import Derived.Test.YtljbchghbpmghaaGreatDoorHB
namespace Go.Proofs.YtljbchghbpmghaaGreatDoor
open Go.RowKit Go.Lib Go.Proofs.YtljbchghbpmghaaGreatDoorW.PrintWords Go.Proofs.YtljbchghbpmghaaGreatDoor.PSwitchboardGreat
set_option linter.unusedVariables false
set_option linter.unusedSimpArgs false
theorem set_f (k : Int) (b : Bool) : ∃ v, prop_set.f k b = some v := by
  unfold prop_set.f
  split
  · exact ⟨_, rfl⟩
  · split
    · exact ⟨_, rfl⟩
    · split
      · exact ⟨_, rfl⟩
      · rw [if_pos (by omega)]
        exact ⟨_, rfl⟩
def SetP (w : World) (e : Ending) (w' : World) : Prop := ∃ v : Int, e = .returned (.int .i64 v) ∧ Below w.heap.size w w'
theorem set_calls (k : Int) (b : Bool) (w : World) : Calls Tryz.prog 65 #[.int .i64 k, .bool b] w (SetP w) := by
  obtain ⟨v, hv⟩ := set_f k b
  refine (prop_set.calls k b v w hv).mono ?_
  rintro e w' ⟨he, hd⟩
  exact ⟨v, he, hd.below⟩
theorem get_l0 (a : Int) (l : List S144) (hl : l.length ≤ 140737488355328) : ∀ (d : Nat) (k : Nat) (i : Int), 0 ≤ i → i ≤ l.length → (l.length : Int) - i = d → d < k → ∃ r, prop_List_Get.l0 k a l (l.length : Int) i = some r := by
  intro d
  induction d with
  | zero =>
    intro k i h0 h1 hd hk
    obtain ⟨k, rfl⟩ : ∃ m, k = m + 1 := ⟨k - 1, by omega⟩
    exact ⟨_, by simp only [prop_List_Get.l0]; rw [if_neg (by omega)]⟩
  | succ d ih =>
    intro k i h0 h1 hd hk
    obtain ⟨k, rfl⟩ : ∃ m, k = m + 1 := ⟨k - 1, by omega⟩
    have hlt : i < (l.length : Int) := by omega
    by_cases he : (rd_T144 l i).f0 = a
    · exact ⟨_, by simp only [prop_List_Get.l0]; rw [if_pos hlt, if_pos h0, if_pos hlt, if_pos he]⟩
    · obtain ⟨r, hr⟩ := ih k (i + 1) (by omega) (by omega) (by omega) (by omega)
      refine ⟨r, ?_⟩
      simp only [prop_List_Get.l0]
      have hw : wrap64 (i + 1) = i + 1 := by unfold wrap64; omega
      rw [if_pos hlt, if_pos h0, if_pos hlt, if_neg he, hw]
      exact hr
def GetP (w : World) (e : Ending) (w' : World) : Prop := ∃ (a : Int) (b : Int) (s t : ByteArray) (q : Bool), e = .returned (.tuple #[.agg #[.int .i64 a, .int .u32 b, .string s, .string t], .bool q]) ∧ Below w.heap.size w w'
theorem get_calls (A : Option Addr) (c : Nat) (l : List S144) (a : Int) (w : World) (hr : Kd.C k144 w A l.length l) (hc : l.length ≤ c) (hl : l.length ≤ 140737488355328) : Calls Tryz.prog 66 #[.slice A l.length c, .int .i64 a] w (GetP w) := by
  obtain ⟨r, hv⟩ := get_l0 a l hl l.length (l.length + 1) 0 (by omega) (by omega) (by omega) (by omega)
  obtain ⟨r1, r2, r3, r4, r5⟩ := r
  refine (prop_List_Get.calls (l.length + 1) A c l a r1 r2 r3 r4 r5 w hr hc hv).mono ?_
  rintro e w' ⟨he, hb⟩
  exact ⟨_, _, _, _, _, he, hb⟩
theorem info144 : (Tryz.prog.info? 144).map (fun i => (i.zero, i.size, i.bytes)) = some (some (.agg #[.int .i64 0, .int .u32 0, .string ⟨#[]⟩, .string ⟨#[]⟩]), 4, 48) := by kernel_rfl
/-- A list of properties of the call's own. -/
def PO (w : World) (B : Nat) (ok : Nat → Prop) (v : Value) (L : List PR) : Prop := k144.R 144 w B ok v (L.map PR.m)
section
variable {w w' : World} {B : Nat} {ok ok' S : Nat → Prop} {v : Value} {L : List PR}
theorem PO.below (h : PO w B ok v L) (hb : Below w.heap.size w w') : PO w' B ok v L := Kd.R_below h hb
theorem PO.mono (h : PO w B ok v L) (hk : ∀ k, ok k → ok' k) : PO w B ok' v L := Kd.R_mono h hk
theorem PO.lim (h : PO w B ok v L) : PO w B (fun k => ok k ∧ k < w.heap.size) v L := Kd.R_mono (Kd.R_bound h) (fun k hk => ⟨hk.1, hk.2.2.1⟩)
theorem PO.to (h : PO w B ok v L) (hc : Chg S w w') (hS : ∀ k, S k → ¬ ok k ∨ ∃ cs t, w.heap[k]? = some (.cells cs t (0, 0)) ∧ t ≠ 144) : PO w' B ok v L := by
  refine Kd.R_mono (Kd.R_step (Kd.R_bound h) (fun k hk hlt => hc.block k hlt (fun hs => ?_))) (fun k hk => hk.1)
  rcases hS k hs with h1 | ⟨cs, t, h1, h2⟩
  · exact h1 hk.1
  · obtain ⟨q, hq, cells, hcl⟩ := hk.2.2.2
    have hq2 : q = 144 := by
      have : q ∈ [144] := hq
      simpa using this
    subst hq2
    rw [h1] at hcl
    injection hcl with hcl
    injection hcl with _ hcl _
    exact h2 hcl
theorem PO.form (h : PO w B ok v L) : ∃ A c, v = .slice A L.length c ∧ L.length ≤ c ∧ PL w A L := by
  obtain ⟨A, c, h1, h2, h3⟩ := Kd.R_reads h
  rw [List.length_map] at h1 h2 h3
  exact ⟨A, c, h1, h2, h3⟩
theorem PO.nil (w : World) (B : Nat) (ok : Nat → Prop) : PO w B ok (.slice none 0 0) [] := Kd.R_nil _ _ _ _ _
end
/-- So many bytes that were taken. -/
def RT (n : Nat) (w : World) (g : Nat) (s : ByteArray) (er : Int) (e : Ending) (w' : World) : Prop := ∃ b s' er', e = .returned (.string b) ∧ b.size ≤ n ∧ IN w' g s' er' ∧ Chg (fun i => i = g) w w' ∧ Eat s er s' er' b.size
theorem rt_in {w : World} {g : Nat} {s : ByteArray} {er : Int} (h : IN w g s er) (n : Nat) : Calls Tryz.prog 28 #[.pointer (some ⟨g, 0, none⟩), .int .i64 n] w (RT n w g s er) := by
  refine (raw_in h n).mono ?_
  rintro e w' ⟨he, hi, hc⟩
  exact ⟨_, _, _, he, raw_size s er n, hi, hc, eat_raw s er n⟩
set_option maxHeartbeats 1000000 in
set_option maxRecDepth 1000000 in
theorem left_same {w : World} {g : Nat} {s : ByteArray} {er : Int} (h : IN w g s er) : Calls Tryz.prog 27 #[.pointer (some ⟨g, 0, none⟩)] w fun e w' => e = .returned (.int .i64 s.size) ∧ w' = w := by
  have h1 : w.cell? ⟨g, 0, none⟩ = some (.string s) := (blk_cell h 0).trans rfl
  clear h
  go_enter Tryz.func27, Tryz.ntmps27
  go_wp2
  go_ret
  exact ⟨rfl, rfl⟩
/-- prop.value by its rule. -/
theorem value_calls {w : World} {g bp id : Nat} {s : ByteArray} {er : Int} (h : IN w g s er) (hp : w.heap[bp]? = some (.cells #[.int .i64 (id : Nat), .int .u32 0, .string ⟨#[]⟩, .string ⟨#[]⟩] 144 (0, 0))) (k : Nat) (hk : k ≤ 7) (x1 x2 x3 x4 : Int) :
    Calls Tryz.prog 67 #[.pointer (some ⟨g, 0, none⟩), .pointer (some ⟨bp, 0, none⟩), .agg #[.int .i64 (k : Nat), .int .i64 x1, .int .u32 x2, .int .u32 x3, .int .i64 x4]] w (VP w g bp id k s er) := by
  rcases (show k = 0 ∨ k = 1 ∨ k = 2 ∨ k = 3 ∨ k = 4 ∨ k = 5 ∨ k = 6 ∨ k = 7 by omega) with rfl | rfl | rfl | rfl | rfl | rfl | rfl | rfl
  · exact value_0 h hp x1 x2 x3 x4
  · exact value_1 h hp x1 x2 x3 x4
  · exact value_2 h hp x1 x2 x3 x4
  · exact value_3 h hp x1 x2 x3 x4
  · exact value_4 h hp x1 x2 x3 x4
  · exact value_5 h hp x1 x2 x3 x4
  · exact value_6 h hp x1 x2 x3 x4
  · exact value_7 h hp x1 x2 x3 x4
end Go.Proofs.YtljbchghbpmghaaGreatDoor

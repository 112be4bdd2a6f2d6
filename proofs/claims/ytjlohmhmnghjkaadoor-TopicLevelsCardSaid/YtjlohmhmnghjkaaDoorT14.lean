/- TopicLevels: the walk. -/
import Derived.Test.YtjlohmhmnghjkaaDoorT11
import Derived.Test.YtjlohmhmnghjkaaDoorShelf2
namespace Go.Proofs.YtjlohmhmnghjkaaDoor
open Go.RowKit Go.Lib Go.Proofs.YtjlohmhmnghjkaaDoorW.PrintWords Go.Proofs.YtjlohmhmnghjkaaDoor.PTopicReads
set_option linter.unusedVariables false
set_option linter.unusedSimpArgs false

def slashL (n : Nat) : List UInt8 := List.replicate n 47
theorem repeat_slash : ∀ n : Nat, Lib.repeatL [47] n = slashL n
  | 0 => rfl
  | n + 1 => by
    show [47] ++ Lib.repeatL [47] n = _
    rw [repeat_slash n]
    rfl
theorem slash_good (l : List UInt8) (h : l.length ≤ 65535) (hl : ∀ x ∈ l, x = 47 ∨ x = 35) : goodB (toB l) = true :=
  goodB_plain l (fun x hx => by rcases hl x hx with rfl | rfl <;> decide) h
theorem slash_count (n : Nat) : (slashL n).count 47 = n := by
  unfold slashL
  rw [List.count_replicate_self]
theorem levels_slash : ∀ (n : Nat) (t : List UInt8), 47 ∉ t → splitP [] (slashL n ++ t) = List.replicate n [] ++ [t]
  | 0, t, h => by
    show splitP [] t = _
    rw [splitP_miss t [] h]
    rfl
  | n + 1, t, h => by
    show splitP [] (47 :: (slashL n ++ t)) = _
    unfold splitP
    rw [if_pos rfl, levels_slash n t h]
    rfl
theorem slash_name (n : Nat) (hn : n ≤ 100) : nameB (toB (slashL n)) = (decide (0 < n) && decide (n < 32)) := by
  have hs : signsB (toB (slashL n)) = false := signsB_of (fun x hx => by
    have hx' : x ∈ slashL n := by simpa [toB] using hx
    obtain rfl := List.eq_of_mem_replicate hx'
    decide)
  have hg := slash_good (slashL n) (by simp [slashL]; omega) (fun x hx => .inl (List.eq_of_mem_replicate hx))
  unfold nameB textB
  have hz : (toB (slashL n)).size = n := by rw [toB_size]; simp [slashL]
  have hc : Lib.countByte (toB (slashL n)).data.toList 47 = n := by
    show (toB (slashL n)).data.toList.count 47 = n
    rw [show (toB (slashL n)).data.toList = slashL n by simp [toB], slash_count]
  rw [hs, hg, hz, hc]
  simp
theorem okL_rep : ∀ (n : Nat) (L : List ByteArray), okL (List.replicate n (toB []) ++ L) = okL L
  | 0, L => rfl
  | n + 1, L => by
    show (levelOk (toB []) _ && okL (List.replicate n (toB []) ++ L)) = okL L
    have : signsB (toB []) = false := by decide
    unfold levelOk
    rw [this, okL_rep n L]
    simp
theorem slash_filter (n : Nat) (hn : n ≤ 100) : filterB (toB (slashL n ++ [35])) = decide (n < 32) := by
  have hg := slash_good (slashL n ++ [35]) (by simp [slashL]; omega) (fun x hx => by
    rcases List.mem_append.1 hx with hx | hx
    · exact .inl (List.eq_of_mem_replicate hx)
    · exact .inr (List.mem_singleton.1 hx))
  have hz : (toB (slashL n ++ [35])).size = n + 1 := by rw [toB_size]; simp [slashL]
  have hd : (toB (slashL n ++ [35])).data.toList = slashL n ++ [35] := by simp [toB]
  have hc : Lib.countByte (toB (slashL n ++ [35])).data.toList 47 = n := by
    show (toB (slashL n ++ [35])).data.toList.count 47 = n
    rw [hd, List.count_append, slash_count]
    rfl
  have hl : okL (levelsOf (toB (slashL n ++ [35]))) = true := by
    unfold levelsOf levelsL
    rw [hd, levels_slash n [35] (by decide), List.map_append, List.map_replicate, okL_rep]
    have : (toB [35]).toList = [35] := by rw [Lib.toList_data]; rfl
    simp [okL, levelOk, this]
  unfold filterB textB
  rw [hg, hz, hc, hl]
  simp
theorem slash_levels (n : Nat) : (levelsOf (toB (slashL n))).length = n + 1 := by
  rw [levelsOf_length]
  show (toB (slashL n)).data.toList.count 47 + 1 = _
  rw [show (toB (slashL n)).data.toList = slashL n by simp [toB], slash_count]
set_option maxHeartbeats 8000000 in
set_option maxRecDepth 1000000 in
theorem levels_nat (n : Nat) (hn : n ≤ 100) (w : World) (hm : HasM w) : Calls Tryd.prog 9 #[.int .i64 n] w fun e w' => e = .returned (.bool true) ∧ Below w.heap.size w w' := by
  have HM := Lib.hid hm
  have HB := Lib.hid (Below.refl w.heap.size w)
  have hrep := fun W => Tryd.strings_Repeat ⟨#[47]⟩ n W (by omega) (by show 1 * n ≤ _; omega)
  rw [show (⟨(Lib.repeatL (⟨#[47]⟩ : ByteArray).data.toList n).toArray⟩ : ByteArray) = toB (slashL n) by rw [show (⟨#[47]⟩ : ByteArray).data.toList = [47] from rfl, repeat_slash]; rfl] at hrep
  have HREP := Lib.hid hrep
  have hz : (toB (slashL n)).size = n := by rw [toB_size]; simp [slashL]
  have HN := Lib.hid (fun W => name_callsB (toB (slashL n)) W (by omega))
  rw [slash_name n hn] at HN
  have hz2 : (toB (slashL n ++ [35])).size = n + 1 := by rw [toB_size]; simp [slashL]
  have HF := Lib.hid (fun W hm => filter_callsB (toB (slashL n ++ [35])) W hm (by omega))
  rw [slash_filter n hn] at HF
  have HLV := Lib.hid (fun W hm => levels_calls (toB (slashL n)) W hm (by omega))
  unfold LevelsPost at HLV
  have hll := slash_levels n
  generalize levelsOf (toB (slashL n)) = LL at HLV hll
  have hcat : toB (slashL n) ++ (⟨#[35]⟩ : ByteArray) = toB (slashL n ++ [35]) := string_eq_of (by simp [toB, ByteArray.data_append])
  have hadd : ∀ W, (Op.stringOp .add (toB (slashL n)) ⟨#[35]⟩).run Tryd.prog W = .ok (.string (toB (slashL n ++ [35]))) W := fun W => by
    have := run_string_add (P := Tryd.prog) W (toB (slashL n)) ⟨#[35]⟩ (by omega) (by show ((1 : Nat) : Int) ≤ _; omega)
    rwa [hcat] at this
  generalize toB (slashL n ++ [35]) = s2 at HF hadd
  generalize toB (slashL n) = s at HREP HN HLV hadd
  clear hm hrep hz hz2 hcat
  have hn0 : decide ((n : Int) < 0) = false := decide_eq_false (by omega)
  have hn1 : decide ((100 : Int) < n) = false := decide_eq_false (by omega)
  go_enter Tryd.func9, Tryd.ntmps9
  go_wp2_with (first
      | (go_at_call 21; refine (awake10_calls _ (HM.out.to HB.out)).mono ?_; rintro e w1 ⟨rfl, hb⟩; have HB1 := Lib.hid (HB.out.trans ((hb).mono HB.out.size)); clear HB hb ; have HB := HB1; clear HB1)
      | (go_at_call 32; refine (HREP.out _).mono ?_; rintro e w1 ⟨rfl, hb⟩; have HB1 := Lib.hid (HB.out.trans ((hb).mono HB.out.size)); clear HB hb ; have HB := HB1; clear HB1)
      | (go_at_call 16; refine (HN.out _).mono ?_; rintro e w1 ⟨rfl, hb⟩; have HB1 := Lib.hid (HB.out.trans ((hb).mono HB.out.size)); clear HB hb ; have HB := HB1; clear HB1)
      | (go_at_call 17; refine (HF.out _ (HM.out.to HB.out)).mono ?_; rintro e w1 ⟨rfl, hb⟩; have HB1 := Lib.hid (HB.out.trans ((hb).mono HB.out.size)); clear HB hb ; have HB := HB1; clear HB1)
      | (go_at_call 23; refine (HLV.out _ (HM.out.to HB.out)).mono ?_; rintro e w1 hp; obtain ⟨A1, c1, rfl, hR, hb⟩ := hp; have HB1 := Lib.hid (HB.out.trans (hb.mono HB.out.size)); clear HB hb hR; have HB := HB1; clear HB1))
  all_goals go_ret
  all_goals exact ⟨rfl, HB.out⟩
set_option maxHeartbeats 4000000 in
set_option maxRecDepth 1000000 in
theorem tlevels_calls (a0 : Int) (w : World) (hm : HasM w) (h0 : (Lit.int .i64 a0).wf = true) : Calls Tryd.prog 9 #[.int .i64 a0] w fun e w' => e = .returned (.bool true) ∧ Below w.heap.size w w' := by
  by_cases hr : 0 ≤ a0 ∧ a0 ≤ 100
  · obtain ⟨n, rfl⟩ : ∃ n : Nat, a0 = n := ⟨a0.toNat, (Int.toNat_of_nonneg hr.1).symm⟩
    exact levels_nat n (by omega) w hm
  · have HM := Lib.hid hm
    have HB := Lib.hid (Below.refl w.heap.size w)
    by_cases h1 : a0 < 0
    · have h1d : decide (a0 < 0) = true := decide_eq_true h1
      clear hr h1 h0 hm
      go_enter Tryd.func9, Tryd.ntmps9
      go_wp2_with (first
        | (go_at_call 21; refine (awake10_calls _ (HM.out.to HB.out)).mono ?_; rintro e w1 ⟨rfl, hb⟩; have HB1 := Lib.hid (HB.out.trans ((hb).mono HB.out.size)); clear HB hb ; have HB := HB1; clear HB1))
      go_ret
      exact ⟨rfl, HB.out⟩
    · have h1d : decide (a0 < 0) = false := decide_eq_false h1
      have h2d : decide ((100 : Int) < a0) = true := decide_eq_true (by omega)
      clear hr h1 h0 hm
      go_enter Tryd.func9, Tryd.ntmps9
      go_wp2_with (first
        | (go_at_call 21; refine (awake10_calls _ (HM.out.to HB.out)).mono ?_; rintro e w1 ⟨rfl, hb⟩; have HB1 := Lib.hid (HB.out.trans ((hb).mono HB.out.size)); clear HB hb ; have HB := HB1; clear HB1))
      go_ret
      exact ⟨rfl, HB.out⟩
end Go.Proofs.YtjlohmhmnghjkaaDoor

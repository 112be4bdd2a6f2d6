/- law10's awake: it is true. -/
import Derived.Test.YtjlohmhmnghjkaaDoorT8
import Derived.Test.YtjlohmhmnghjkaaDoorP1
namespace Go.Proofs.YtjlohmhmnghjkaaDoor
open Go.RowKit Go.Lib Go.Proofs.YtjlohmhmnghjkaaDoorW.PrintWords Go.Proofs.YtjlohmhmnghjkaaDoor.PTopicReads
set_option linter.unusedVariables false
set_option linter.unusedSimpArgs false

theorem goodB_plain (l : List UInt8) (h : ∀ x ∈ l, 0 < x.toNat ∧ x.toNat < 128) (hs : l.length ≤ 65535) : goodB ⟨l.toArray⟩ = true := (goodB_of (goodW_plain l h) (by rw [Lib.size_eq]; simpa using hs)).symm
theorem nameB_plain (l : List UInt8) (h0 : 0 < l.length) (h1 : l.length < 32) (h : ∀ x ∈ l, 0 < x.toNat ∧ x.toNat < 128 ∧ plusHash.contains x = false) : nameB ⟨l.toArray⟩ = true := (nameB_of (nameW_plain l h0 h1 h) (by rw [Lib.size_eq]; simp; omega)).symm
theorem aw_m0 : matchB ⟨#[97, 47, 43]⟩ ⟨#[97, 47, 98]⟩ = true := by
  simp [matchB, hidB, signFirst, levelsOf, levelsL, splitP, toB, meetsL, Lib.toList_data, Lib.extract_eq, ByteArray.size]
theorem aw_m1 : matchB ⟨#[97, 47, 43]⟩ ⟨#[97]⟩ = false := by
  simp [matchB, hidB, signFirst, levelsOf, levelsL, splitP, toB, meetsL, Lib.toList_data, Lib.extract_eq, ByteArray.size]
theorem aw_m2 : matchB ⟨#[97, 47, 35]⟩ ⟨#[97]⟩ = true := by
  simp [matchB, hidB, signFirst, levelsOf, levelsL, splitP, toB, meetsL, Lib.toList_data, Lib.extract_eq, ByteArray.size]
theorem aw_m3 : matchB ⟨#[35]⟩ ⟨#[36, 120]⟩ = false := by
  simp [matchB, hidB, signFirst, levelsOf, levelsL, splitP, toB, meetsL, Lib.toList_data, Lib.extract_eq, ByteArray.size]
theorem aw_s : splitT ⟨#[36, 115, 104, 97, 114, 101, 47, 103, 47, 97, 47, 43]⟩ = (⟨#[103]⟩, ⟨#[97, 47, 43]⟩, true) := by
  have h1 : isShared ⟨#[36, 115, 104, 97, 114, 101, 47, 103, 47, 97, 47, 43]⟩ = true := by simp [isShared, preB, Lib.toList_data, Lib.extract_eq, ByteArray.size]
  have hl : (leftS ⟨#[36, 115, 104, 97, 114, 101, 47, 103, 47, 97, 47, 43]⟩).data.toList = [103, 47, 97, 47, 43] := by simp [leftS, Lib.extract_eq, ByteArray.size]
  have h2 : goodB ⟨#[103]⟩ = true := goodB_plain [103] (by decide) (by decide)
  have h3 : goodB ⟨#[97, 47, 43]⟩ = true := goodB_plain [97, 47, 43] (by decide) (by decide)
  have h4 : okL (levelsOf ⟨#[97, 47, 43]⟩) = true := by
    have s1 : signsB ⟨#[97]⟩ = false := by decide
    simp [levelsOf, levelsL, splitP, toB, okL, levelOk, Lib.toList_data, s1]
  have h5 : filterB ⟨#[97, 47, 43]⟩ = true := by
    unfold filterB textB
    rw [h3, h4]
    decide
  have h6 : signsB ⟨#[103]⟩ = false := by decide
  unfold splitT
  rw [h1, if_pos rfl, hl]
  have hi : Lib.indexByte [103, 47, 97, 47, 43] 47 = 1 := by decide
  rw [hi, if_pos (by decide)]
  have hg : cutG [103, 47, 97, 47, 43] = ⟨#[103]⟩ := by unfold cutG; rw [hi]; rfl
  have hf : cutF [103, 47, 97, 47, 43] = ⟨#[97, 47, 43]⟩ := by unfold cutF; rw [hi]; rfl
  rw [hg, hf]
  unfold partT
  rw [h2, h5, h6]
  rfl
theorem aw_n : nameB ⟨#[97]⟩ = true := nameB_plain [97] (by decide) (by decide) (by decide)
theorem aw_n2 : nameB ⟨#[97, 47, 35]⟩ = false := (nameB_of nameW_slash_hash (by decide)).symm
set_option maxHeartbeats 4000000 in
set_option maxRecDepth 1000000 in
theorem awake10_calls (w : World) (hm : HasM w) : Calls Tryd.prog 21 #[] w fun e w' => e = .returned (.bool true) ∧ Below w.heap.size w w' := by
  have HM := Lib.hid hm
  have HB := Lib.hid (Below.refl w.heap.size w)
  have HS := Lib.hid (fun W hm => split_calls ⟨#[36, 115, 104, 97, 114, 101, 47, 103, 47, 97, 47, 43]⟩ W hm (by decide))
  rw [aw_s] at HS
  have HM0 := Lib.hid (fun W hm => match_calls ⟨#[97, 47, 43]⟩ ⟨#[97, 47, 98]⟩ W hm (by decide) (by decide))
  rw [aw_m0] at HM0
  have HM1 := Lib.hid (fun W hm => match_calls ⟨#[97, 47, 43]⟩ ⟨#[97]⟩ W hm (by decide) (by decide))
  rw [aw_m1] at HM1
  have HM2 := Lib.hid (fun W hm => match_calls ⟨#[97, 47, 35]⟩ ⟨#[97]⟩ W hm (by decide) (by decide))
  rw [aw_m2] at HM2
  have HM3 := Lib.hid (fun W hm => match_calls ⟨#[35]⟩ ⟨#[36, 120]⟩ W hm (by decide) (by decide))
  rw [aw_m3] at HM3
  have HN1 := Lib.hid (fun W => name_callsB ⟨#[97]⟩ W (by decide))
  rw [aw_n] at HN1
  have HN2 := Lib.hid (fun W => name_callsB ⟨#[97, 47, 35]⟩ W (by decide))
  rw [aw_n2] at HN2
  clear hm
  go_enter Tryd.func21, Tryd.ntmps21
  go_wp2_with (first
    | (go_at_call 19; refine (HS.out _ (HM.out.to HB.out)).mono ?_; rintro e w1 ⟨rfl, hb⟩; have HB1 := Lib.hid (HB.out.trans (hb.mono HB.out.size)); clear HB hb HS; have HB := HB1; clear HB1)
    | (go_at_call 28; refine (HM0.out _ (HM.out.to HB.out)).mono ?_; rintro e w1 ⟨rfl, hb⟩; have HB1 := Lib.hid (HB.out.trans (hb.mono HB.out.size)); clear HB hb HM0; have HB := HB1; clear HB1)
    | (go_at_call 28; refine (HM1.out _ (HM.out.to HB.out)).mono ?_; rintro e w1 ⟨rfl, hb⟩; have HB1 := Lib.hid (HB.out.trans (hb.mono HB.out.size)); clear HB hb HM1; have HB := HB1; clear HB1)
    | (go_at_call 28; refine (HM2.out _ (HM.out.to HB.out)).mono ?_; rintro e w1 ⟨rfl, hb⟩; have HB1 := Lib.hid (HB.out.trans (hb.mono HB.out.size)); clear HB hb HM2; have HB := HB1; clear HB1)
    | (go_at_call 28; refine (HM3.out _ (HM.out.to HB.out)).mono ?_; rintro e w1 ⟨rfl, hb⟩; have HB1 := Lib.hid (HB.out.trans (hb.mono HB.out.size)); clear HB hb HM3; have HB := HB1; clear HB1)
    | (go_at_call 16; refine (HN1.out _).mono ?_; rintro e w1 ⟨rfl, hb⟩; have HB1 := Lib.hid (HB.out.trans (hb.mono HB.out.size)); clear HB hb HN1; have HB := HB1; clear HB1)
    | (go_at_call 16; refine (HN2.out _).mono ?_; rintro e w1 ⟨rfl, hb⟩; have HB1 := Lib.hid (HB.out.trans (hb.mono HB.out.size)); clear HB hb HN2; have HB := HB1; clear HB1))
  go_ret
  exact ⟨rfl, HB.out⟩
end Go.Proofs.YtjlohmhmnghjkaaDoor

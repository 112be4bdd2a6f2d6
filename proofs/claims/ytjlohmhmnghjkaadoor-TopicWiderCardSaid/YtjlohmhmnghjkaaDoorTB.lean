/- Split: topic's and the reference's; law10's awake; TopicMatches and TopicReads. -/
import Derived.Test.YtjlohmhmnghjkaaDoorTA
import Derived.Test.YtjlohmhmnghjkaaDoorP1
namespace Go.Proofs.YtjlohmhmnghjkaaDoor
open Go.RowKit Go.Lib Go.Proofs.YtjlohmhmnghjkaaDoorW.PrintWords Go.Proofs.YtjlohmhmnghjkaaDoor.PTopicReads
set_option linter.unusedVariables false
set_option linter.unusedSimpArgs false

def preB : ByteArray := ⟨#[36, 115, 104, 97, 114, 101, 47]⟩
def isShared (s : ByteArray) : Bool := decide (7 ≤ s.size) && ((s.extract 0 7).toList == preB.toList)
def leftS (s : ByteArray) : ByteArray := s.extract 7 s.size
/-- Cut around the first slash. -/
def cutG (l : List UInt8) : ByteArray := toB (l.take (Lib.indexByte l 47).toNat)
def cutF (l : List UInt8) : ByteArray := toB (l.drop ((Lib.indexByte l 47).toNat + 1))
def partT (g f : ByteArray) : ByteArray × ByteArray × Bool := if decide (0 < g.size) && filterB f && goodB g && !signsB g then (g, f, true) else (⟨#[]⟩, ⟨#[]⟩, false)
def splitT (s : ByteArray) : ByteArray × ByteArray × Bool :=
  if isShared s then (if 0 ≤ Lib.indexByte (leftS s).data.toList 47 then partT (cutG (leftS s).data.toList) (cutF (leftS s).data.toList) else (⟨#[]⟩, ⟨#[]⟩, false)) else (⟨#[]⟩, s, filterB s)
theorem cutprefix_f (s : ByteArray) : strings_CutPrefix.f s preB = some (if isShared s then leftS s else s, isShared s) := by
  unfold strings_CutPrefix.f stringslite_CutPrefix.f stringslite_HasPrefix.f isShared leftS
  have e : (preB.size : Int) = 7 := rfl
  rw [e]
  by_cases h : 7 ≤ s.size
  · rw [if_pos (by omega), if_pos (by omega), if_pos (by omega), decide_eq_true h, Bool.true_and]
    simp only [Option.bind_some]
    rw [show (7 : Int).toNat = 7 from rfl]
    cases (s.extract 0 7).toList == preB.toList with
    | false => rfl
    | true => rw [if_pos rfl, if_pos (by omega), if_pos (by omega)]; rfl
  · rw [if_neg (by omega), decide_eq_false h]
    rfl
theorem cutG_size (l : List UInt8) : (cutG l).size ≤ l.length := by
  unfold cutG toB
  rw [Lib.size_eq]
  simp
  omega
theorem cutF_size (l : List UInt8) : (cutF l).size ≤ l.length := by
  unfold cutF toB
  rw [Lib.size_eq]
  simp
theorem leftS_size (s : ByteArray) : (leftS s).data.toList.length ≤ s.size := by
  rw [← Lib.size_eq]
  unfold leftS
  rw [ByteArray.size_extract]
  omega
theorem cut_calls (s : ByteArray) (w : World) (hm : HasM w) (hs : s.size < 4294967281) : Calls Tryd.prog 45 #[.string s, .string ⟨#[47]⟩] w fun e w' =>
    e = .returned (.tuple #[.string (if 0 ≤ Lib.indexByte s.data.toList 47 then cutG s.data.toList else s), .string (if 0 ≤ Lib.indexByte s.data.toList 47 then cutF s.data.toList else ⟨#[]⟩), .bool (decide (0 ≤ Lib.indexByte s.data.toList 47))]) ∧ Below w.heap.size w w' := by
  obtain ⟨m, hm⟩ := hm
  refine (Tryd.strings_Cut s ⟨#[47]⟩ m w hs hm).mono ?_
  rintro e w' ⟨rfl, n, rfl⟩
  refine ⟨?_, pw_below_drewN (Below.refl _ _) _⟩
  have e1 : (⟨#[47]⟩ : ByteArray).data.toList = [47] := rfl
  unfold Lib.cut
  rw [e1, Lib.index_one]
  by_cases h : 0 ≤ Lib.indexByte s.data.toList 47
  · rw [if_pos h, if_pos h, if_pos h, decide_eq_true h]; rfl
  · rw [if_neg h, if_neg h, if_neg h, decide_eq_false h]
set_option maxHeartbeats 4000000 in
set_option maxRecDepth 1000000 in
theorem split_calls (s : ByteArray) (w : World) (hm : HasM w) (hs : s.size ≤ 65535) : Calls Tryd.prog 19 #[.string s] w fun e w' => e = .returned (.tuple #[.string (splitT s).1, .string (splitT s).2.1, .bool (splitT s).2.2]) ∧ Below w.heap.size w w' := by
  have HCP := Lib.hid (cutprefix_f s)
  have HM := Lib.hid hm
  have HB := Lib.hid (Below.refl w.heap.size w)
  obtain ⟨g0, f0, k0, hT⟩ : ∃ g f k, splitT s = (g, f, k) := ⟨_, _, _, rfl⟩
  rw [hT]
  have hT2 := hT
  unfold splitT at hT2
  cases hsh : isShared s with
  | false =>
    rw [hsh] at hT2 HCP
    simp only [Bool.false_eq_true, if_false, Prod.mk.injEq] at hT2 HCP
    obtain ⟨rfl, rfl, rfl⟩ := hT2
    have HF := Lib.hid (fun W hm => filter_callsB s W hm hs)
    clear hsh hT hm hs
    go_enter Tryd.func19, Tryd.ntmps19
    go_wp2_with (first | (go_at_call 44; refine (strings_CutPrefix.calls s preB _ _ _ HCP.out).mono ?_; rintro e w1 ⟨rfl, hd⟩; have HB1 := Lib.hid (HB.out.trans (hd.below.mono HB.out.size)); clear HB hd; have HB := HB1; clear HB1) | (go_at_call 45; refine (HCUT.out _ (HM.out.to HB.out)).mono ?_; rintro e w1 ⟨rfl, hb⟩; have HB1 := Lib.hid (HB.out.trans (hb.mono HB.out.size)); clear HB hb; have HB := HB1; clear HB1) | (go_at_call 17; refine (HF.out _ (HM.out.to HB.out)).mono ?_; rintro e w1 ⟨rfl, hb⟩; have HB1 := Lib.hid (HB.out.trans (hb.mono HB.out.size)); clear HB hb; have HB := HB1; clear HB1) | (go_at_call 40; refine (HG.out _).mono ?_; rintro e w1 ⟨rfl, hb⟩; have HB1 := Lib.hid (HB.out.trans (hb.mono HB.out.size)); clear HB hb; have HB := HB1; clear HB1) | (go_at_call 43; refine (HS.out _).mono ?_; rintro e w1 ⟨rfl, hb⟩; have HB1 := Lib.hid (HB.out.trans (hb.mono HB.out.size)); clear HB hb; have HB := HB1; clear HB1))
    go_ret3
    exact ⟨rfl, HB.out⟩
  | true =>
    rw [hsh] at hT2 HCP
    simp only [if_true] at hT2 HCP
    have hls := leftS_size s
    have hgs := cutG_size (leftS s).data.toList
    have hfs := cutF_size (leftS s).data.toList
    have HCUT := Lib.hid (fun W hm => cut_calls (leftS s) W hm (by rw [Lib.size_eq]; omega))
    by_cases hix : 0 ≤ Lib.indexByte (leftS s).data.toList 47
    · rw [if_pos hix] at hT2
      simp only [if_pos hix, decide_eq_true hix] at HCUT
      generalize cutG (leftS s).data.toList = g at hT2 HCUT hgs
      generalize cutF (leftS s).data.toList = f at hT2 HCUT hfs
      generalize leftS s = L at HCP HCUT
      have HF := Lib.hid (fun W hm => filter_callsB f W hm (by omega))
      have HG := Lib.hid (fun W => good_callsB g W (by omega))
      have HS := Lib.hid (fun W => containsAny_any g W (by omega))
      unfold partT at hT2
      generalize filterB f = bf at hT2 HF
      generalize goodB g = bg at hT2 HG
      generalize signsB g = bs at hT2 HS
      by_cases hg0 : g.size = 0
      · have hem := isEmpty_nil g hg0
        rw [decide_eq_false (by omega)] at hT2
        simp only [Bool.false_and, Bool.false_eq_true, if_false, Prod.mk.injEq] at hT2
        obtain ⟨rfl, rfl, rfl⟩ := hT2
        clear hsh hT hm hs hls hgs hfs hix hg0
        go_enter Tryd.func19, Tryd.ntmps19
        go_wp2_with (first | (go_at_call 44; refine (strings_CutPrefix.calls s preB _ _ _ HCP.out).mono ?_; rintro e w1 ⟨rfl, hd⟩; have HB1 := Lib.hid (HB.out.trans (hd.below.mono HB.out.size)); clear HB hd; have HB := HB1; clear HB1) | (go_at_call 45; refine (HCUT.out _ (HM.out.to HB.out)).mono ?_; rintro e w1 ⟨rfl, hb⟩; have HB1 := Lib.hid (HB.out.trans (hb.mono HB.out.size)); clear HB hb; have HB := HB1; clear HB1) | (go_at_call 17; refine (HF.out _ (HM.out.to HB.out)).mono ?_; rintro e w1 ⟨rfl, hb⟩; have HB1 := Lib.hid (HB.out.trans (hb.mono HB.out.size)); clear HB hb; have HB := HB1; clear HB1) | (go_at_call 40; refine (HG.out _).mono ?_; rintro e w1 ⟨rfl, hb⟩; have HB1 := Lib.hid (HB.out.trans (hb.mono HB.out.size)); clear HB hb; have HB := HB1; clear HB1) | (go_at_call 43; refine (HS.out _).mono ?_; rintro e w1 ⟨rfl, hb⟩; have HB1 := Lib.hid (HB.out.trans (hb.mono HB.out.size)); clear HB hb; have HB := HB1; clear HB1))
        go_ret3
        exact ⟨rfl, HB.out⟩
      · have hem := isEmpty_of g (by omega)
        rw [decide_eq_true (by omega)] at hT2
        clear hsh hT hm hs hls hgs hfs hix hg0
        cases bf with
        | false =>
          simp only [Bool.false_and, Bool.and_false, Bool.false_eq_true, if_false, Prod.mk.injEq] at hT2
          obtain ⟨rfl, rfl, rfl⟩ := hT2
          go_enter Tryd.func19, Tryd.ntmps19
          go_wp2_with (first | (go_at_call 44; refine (strings_CutPrefix.calls s preB _ _ _ HCP.out).mono ?_; rintro e w1 ⟨rfl, hd⟩; have HB1 := Lib.hid (HB.out.trans (hd.below.mono HB.out.size)); clear HB hd; have HB := HB1; clear HB1) | (go_at_call 45; refine (HCUT.out _ (HM.out.to HB.out)).mono ?_; rintro e w1 ⟨rfl, hb⟩; have HB1 := Lib.hid (HB.out.trans (hb.mono HB.out.size)); clear HB hb; have HB := HB1; clear HB1) | (go_at_call 17; refine (HF.out _ (HM.out.to HB.out)).mono ?_; rintro e w1 ⟨rfl, hb⟩; have HB1 := Lib.hid (HB.out.trans (hb.mono HB.out.size)); clear HB hb; have HB := HB1; clear HB1) | (go_at_call 40; refine (HG.out _).mono ?_; rintro e w1 ⟨rfl, hb⟩; have HB1 := Lib.hid (HB.out.trans (hb.mono HB.out.size)); clear HB hb; have HB := HB1; clear HB1) | (go_at_call 43; refine (HS.out _).mono ?_; rintro e w1 ⟨rfl, hb⟩; have HB1 := Lib.hid (HB.out.trans (hb.mono HB.out.size)); clear HB hb; have HB := HB1; clear HB1))
          go_ret3
          exact ⟨rfl, HB.out⟩
        | true =>
          cases bg with
          | false =>
            simp only [Bool.false_and, Bool.and_false, Bool.false_eq_true, if_false, Prod.mk.injEq] at hT2
            obtain ⟨rfl, rfl, rfl⟩ := hT2
            go_enter Tryd.func19, Tryd.ntmps19
            go_wp2_with (first | (go_at_call 44; refine (strings_CutPrefix.calls s preB _ _ _ HCP.out).mono ?_; rintro e w1 ⟨rfl, hd⟩; have HB1 := Lib.hid (HB.out.trans (hd.below.mono HB.out.size)); clear HB hd; have HB := HB1; clear HB1) | (go_at_call 45; refine (HCUT.out _ (HM.out.to HB.out)).mono ?_; rintro e w1 ⟨rfl, hb⟩; have HB1 := Lib.hid (HB.out.trans (hb.mono HB.out.size)); clear HB hb; have HB := HB1; clear HB1) | (go_at_call 17; refine (HF.out _ (HM.out.to HB.out)).mono ?_; rintro e w1 ⟨rfl, hb⟩; have HB1 := Lib.hid (HB.out.trans (hb.mono HB.out.size)); clear HB hb; have HB := HB1; clear HB1) | (go_at_call 40; refine (HG.out _).mono ?_; rintro e w1 ⟨rfl, hb⟩; have HB1 := Lib.hid (HB.out.trans (hb.mono HB.out.size)); clear HB hb; have HB := HB1; clear HB1) | (go_at_call 43; refine (HS.out _).mono ?_; rintro e w1 ⟨rfl, hb⟩; have HB1 := Lib.hid (HB.out.trans (hb.mono HB.out.size)); clear HB hb; have HB := HB1; clear HB1))
            go_ret3
            exact ⟨rfl, HB.out⟩
          | true =>
            cases bs with
            | true =>
              simp only [Bool.not_true, Bool.and_false, Bool.false_eq_true, if_false, Prod.mk.injEq] at hT2
              obtain ⟨rfl, rfl, rfl⟩ := hT2
              go_enter Tryd.func19, Tryd.ntmps19
              go_wp2_with (first | (go_at_call 44; refine (strings_CutPrefix.calls s preB _ _ _ HCP.out).mono ?_; rintro e w1 ⟨rfl, hd⟩; have HB1 := Lib.hid (HB.out.trans (hd.below.mono HB.out.size)); clear HB hd; have HB := HB1; clear HB1) | (go_at_call 45; refine (HCUT.out _ (HM.out.to HB.out)).mono ?_; rintro e w1 ⟨rfl, hb⟩; have HB1 := Lib.hid (HB.out.trans (hb.mono HB.out.size)); clear HB hb; have HB := HB1; clear HB1) | (go_at_call 17; refine (HF.out _ (HM.out.to HB.out)).mono ?_; rintro e w1 ⟨rfl, hb⟩; have HB1 := Lib.hid (HB.out.trans (hb.mono HB.out.size)); clear HB hb; have HB := HB1; clear HB1) | (go_at_call 40; refine (HG.out _).mono ?_; rintro e w1 ⟨rfl, hb⟩; have HB1 := Lib.hid (HB.out.trans (hb.mono HB.out.size)); clear HB hb; have HB := HB1; clear HB1) | (go_at_call 43; refine (HS.out _).mono ?_; rintro e w1 ⟨rfl, hb⟩; have HB1 := Lib.hid (HB.out.trans (hb.mono HB.out.size)); clear HB hb; have HB := HB1; clear HB1))
              go_ret3
              exact ⟨rfl, HB.out⟩
            | false =>
              simp only [Bool.not_false, Bool.and_true, if_true, Prod.mk.injEq] at hT2
              obtain ⟨rfl, rfl, rfl⟩ := hT2
              go_enter Tryd.func19, Tryd.ntmps19
              go_wp2_with (first | (go_at_call 44; refine (strings_CutPrefix.calls s preB _ _ _ HCP.out).mono ?_; rintro e w1 ⟨rfl, hd⟩; have HB1 := Lib.hid (HB.out.trans (hd.below.mono HB.out.size)); clear HB hd; have HB := HB1; clear HB1) | (go_at_call 45; refine (HCUT.out _ (HM.out.to HB.out)).mono ?_; rintro e w1 ⟨rfl, hb⟩; have HB1 := Lib.hid (HB.out.trans (hb.mono HB.out.size)); clear HB hb; have HB := HB1; clear HB1) | (go_at_call 17; refine (HF.out _ (HM.out.to HB.out)).mono ?_; rintro e w1 ⟨rfl, hb⟩; have HB1 := Lib.hid (HB.out.trans (hb.mono HB.out.size)); clear HB hb; have HB := HB1; clear HB1) | (go_at_call 40; refine (HG.out _).mono ?_; rintro e w1 ⟨rfl, hb⟩; have HB1 := Lib.hid (HB.out.trans (hb.mono HB.out.size)); clear HB hb; have HB := HB1; clear HB1) | (go_at_call 43; refine (HS.out _).mono ?_; rintro e w1 ⟨rfl, hb⟩; have HB1 := Lib.hid (HB.out.trans (hb.mono HB.out.size)); clear HB hb; have HB := HB1; clear HB1))
              go_ret3
              exact ⟨rfl, HB.out⟩
    · rw [if_neg hix] at hT2
      simp only [if_neg hix, decide_eq_false hix] at HCUT
      generalize leftS s = L at HCP HCUT
      simp only [Prod.mk.injEq] at hT2
      obtain ⟨rfl, rfl, rfl⟩ := hT2
      clear hsh hT hm hs hls hgs hfs hix
      go_enter Tryd.func19, Tryd.ntmps19
      go_wp2_with (first | (go_at_call 44; refine (strings_CutPrefix.calls s preB _ _ _ HCP.out).mono ?_; rintro e w1 ⟨rfl, hd⟩; have HB1 := Lib.hid (HB.out.trans (hd.below.mono HB.out.size)); clear HB hd; have HB := HB1; clear HB1) | (go_at_call 45; refine (HCUT.out _ (HM.out.to HB.out)).mono ?_; rintro e w1 ⟨rfl, hb⟩; have HB1 := Lib.hid (HB.out.trans (hb.mono HB.out.size)); clear HB hb; have HB := HB1; clear HB1) | (go_at_call 17; refine (HF.out _ (HM.out.to HB.out)).mono ?_; rintro e w1 ⟨rfl, hb⟩; have HB1 := Lib.hid (HB.out.trans (hb.mono HB.out.size)); clear HB hb; have HB := HB1; clear HB1) | (go_at_call 40; refine (HG.out _).mono ?_; rintro e w1 ⟨rfl, hb⟩; have HB1 := Lib.hid (HB.out.trans (hb.mono HB.out.size)); clear HB hb; have HB := HB1; clear HB1) | (go_at_call 43; refine (HS.out _).mono ?_; rintro e w1 ⟨rfl, hb⟩; have HB1 := Lib.hid (HB.out.trans (hb.mono HB.out.size)); clear HB hb; have HB := HB1; clear HB1))
      go_ret3
      exact ⟨rfl, HB.out⟩
theorem slash_no {l : List UInt8} (h : 47 ∉ l) : Lib.indexByte l 47 = -1 := by
  have h1 := Lib.indexByte_ge l 47
  by_cases h2 : 0 ≤ Lib.indexByte l 47
  · obtain ⟨o, ho⟩ : ∃ o : Nat, Lib.indexByte l 47 = o := ⟨_, (Int.toNat_of_nonneg h2).symm⟩
    have := (slash_at ho).1
    exact absurd (by rw [this]; simp) h
  · omega
theorem slash_first {l : List UInt8} {j : Nat} (hj : j < l.length) (h : l[j] = 47) (hn : 47 ∉ l.take j) : Lib.indexByte l 47 = j := by
  by_cases h2 : 0 ≤ Lib.indexByte l 47
  · obtain ⟨o, ho⟩ : ∃ o : Nat, Lib.indexByte l 47 = o := ⟨_, (Int.toNat_of_nonneg h2).symm⟩
    obtain ⟨h3, h4⟩ := Lib.indexByte_some ho
    obtain ⟨hlt, he⟩ := List.getElem?_eq_some_iff.1 h3
    rcases Nat.lt_trichotomy o j with h5 | h5 | h5
    · refine absurd ?_ hn
      have hot : o < (l.take j).length := by rw [List.length_take]; omega
      have : (l.take j)[o] = 47 := by rw [List.getElem_take]; exact he
      rw [← this]
      exact List.getElem_mem hot
    · rw [ho, h5]
    · exact absurd (by rw [List.getElem?_eq_getElem hj, h]) (h4 j h5)
  · have h1 := Lib.indexByte_ge l 47
    exact absurd (List.getElem_mem hj) (by rw [h]; exact slash_none (by omega))
theorem toB_size (l : List UInt8) : (toB l).size = l.length := by rw [Lib.size_eq]; simp [toB]
theorem toB_nil_iff (l : List UInt8) : ((toB l).toList = ([] : List UInt8)) ↔ l = [] := by
  rw [Lib.toList_data]
  simp [toB]
theorem rsplit_l0 (s : ByteArray) (hs : s.size ≤ 65535) (h7 : 7 ≤ s.size) : ∀ r j k : Nat, j + r = (leftS s).data.toList.length → 47 ∉ (leftS s).data.toList.take j → 3 * s.size + 65701 + r ≤ k →
    switchboardref10_Split.l0 k s (toB ((leftS s).data.toList.take j)) ((7 + j : Nat) : Int) = some (if 0 ≤ Lib.indexByte (leftS s).data.toList 47 then partT (cutG (leftS s).data.toList) (cutF (leftS s).data.toList) else (⟨#[]⟩, ⟨#[]⟩, false)) := by
  have hL : (leftS s).data.toList = s.data.toList.drop 7 := by unfold leftS; rw [extract_from]
  have hlen : (leftS s).data.toList.length + 7 = s.size := by rw [hL, List.length_drop, ← Lib.size_eq]; omega
  intro r
  induction r with
  | zero =>
    intro j k hj hno hk
    obtain ⟨k, rfl⟩ : ∃ q, k = q + 1 := ⟨k - 1, by omega⟩
    rw [List.take_of_length_le (by omega)] at hno ⊢
    rw [slash_no hno, if_neg (by decide)]
    simp only [switchboardref10_Split.l0]
    rw [if_neg (by omega)]
  | succ r ih =>
    intro j k hj hno hk
    obtain ⟨k, rfl⟩ : ∃ q, k = q + 1 := ⟨k - 1, by omega⟩
    have hjl : j < (leftS s).data.toList.length := by omega
    have hlt : 7 + j < s.size := by omega
    have e1 : wrap64 (((7 + j : Nat) : Int) + 1) = ((7 + (j + 1) : Nat) : Int) := by rw [w64 (by omega) (by omega)]; push_cast; omega
    have hb := bt_nat s (7 + j) hlt
    have hba := byteAt_of (s := s) (k := 7 + j) hlt
    have hd : (leftS s).data.toList[j] = s[7 + j]'hlt := by
      have h1 := Lib.data_getElem? s (7 + j) hlt
      have h2 : (leftS s).data.toList[j]? = s.data.toList[7 + j]? := by rw [hL, List.getElem?_drop]
      rw [h1, List.getElem?_eq_getElem hjl] at h2
      exact Option.some.inj h2
    simp only [switchboardref10_Split.l0, e1, hb]
    rw [if_pos (by omega), if_pos (by omega)]
    by_cases h47 : byteAt s (7 + j) = 47
    · have hx : (leftS s).data.toList[j] = 47 := by rw [hd]; exact UInt8.toNat_inj.1 (by rw [← hba, h47]; rfl)
      have hix := slash_first hjl hx hno
      have hG : cutG (leftS s).data.toList = toB ((leftS s).data.toList.take j) := by unfold cutG; rw [hix, Int.toNat_natCast]
      have hF : s.extract (7 + (j + 1)) s.size = cutF (leftS s).data.toList := string_eq_of (by
        rw [extract_from, List.toList_toArray]
        unfold cutF toB
        rw [hix, Int.toNat_natCast, List.toList_toArray, hL, List.drop_drop])
      have hgs : (toB ((leftS s).data.toList.take j)).size ≤ s.size := by rw [toB_size, List.length_take]; omega
      have hfs : (cutF (leftS s).data.toList).size ≤ s.size := by have := cutF_size (leftS s).data.toList; omega
      have hR : (if 0 ≤ Lib.indexByte (leftS s).data.toList 47 then partT (cutG (leftS s).data.toList) (cutF (leftS s).data.toList) else (⟨#[]⟩, ⟨#[]⟩, false)) = partT (toB ((leftS s).data.toList.take j)) (cutF (leftS s).data.toList) := by rw [if_pos (by omega), hG]
      rw [hR, if_pos (by omega), if_pos (by omega), if_pos (by omega), Int.toNat_natCast, hF]
      clear hR hG hix
      generalize toB ((leftS s).data.toList.take j) = g at hgs
      generalize cutF (leftS s).data.toList = f at hfs
      unfold partT
      by_cases hg0 : 0 < g.size
      · have hne : ¬ g.toList = [] := by
          intro e
          have := isEmpty_of g hg0
          rw [e] at this
          exact absurd this (by decide)
        rw [if_neg hne, signs_f g (by omega) k (by omega), decide_eq_true hg0]
        simp only [Option.bind_some]
        cases signsB g with
        | true => simp
        | false =>
          rw [if_neg (by decide), good_fB g (by omega) k (by omega)]
          simp only [Option.bind_some]
          cases goodB g with
          | false => simp
          | true =>
            rw [if_pos rfl, filter_fB f (by omega) k (by omega)]
            simp only [Option.bind_some]
            cases filterB f <;> simp
      · have he : g.toList = [] := List.isEmpty_iff.1 (isEmpty_nil g (by omega))
        rw [if_pos he, decide_eq_false hg0]
        simp
    · have hx : ¬ (leftS s).data.toList[j] = 47 := fun e => h47 (by rw [hba, ← hd, e]; rfl)
      have hz : (s.extract (7 + j) (7 + (j + 1))).size = 1 := by rw [ByteArray.size_extract]; omega
      have hps : (toB ((leftS s).data.toList.take j)).size = j := by rw [toB_size, List.length_take]; omega
      have ee : toB ((leftS s).data.toList.take j) ++ s.extract (7 + j) (7 + (j + 1)) = toB ((leftS s).data.toList.take (j + 1)) := string_eq_of (by
        rw [ByteArray.data_append]
        simp only [toB, Array.toList_append, Lib.extract_eq]
        rw [show 7 + (j + 1) - (7 + j) = 1 by omega, ← List.drop_drop, ← hL, List.drop_eq_getElem_cons hjl, List.take_succ_eq_append_getElem hjl]
        rfl)
      rw [if_neg (by omega), if_pos (by omega), if_pos (by omega), Int.toNat_natCast, Int.toNat_natCast, if_pos (by rw [hz, hps]; omega), ee]
      refine ih (j + 1) k (by omega) ?_ (by omega)
      rw [List.take_succ_eq_append_getElem hjl]
      intro hm
      rcases List.mem_append.1 hm with hm | hm
      · exact hno hm
      · exact hx (List.mem_singleton.1 hm).symm
theorem split_fB (s : ByteArray) (hs : s.size ≤ 65535) (k : Nat) (hk : 4 * s.size + 65800 ≤ k) : switchboardref10_Split.f k s = some (splitT s) := by
  obtain ⟨k, rfl⟩ : ∃ q, k = q + 1 := ⟨k - 1, by omega⟩
  have hpre : preB.toList = ([36, 115, 104, 97, 114, 101, 47] : List UInt8) := by rw [Lib.toList_data]; rfl
  have hplain : isShared s = false → switchboardref10_Split.j0 (k + 1) s true = some (splitT s) := fun h => by
    simp only [switchboardref10_Split.j0, if_true]
    rw [filter_fB s hs k (by omega)]
    unfold splitT
    rw [h]
    rfl
  unfold switchboardref10_Split.f
  by_cases h7 : s.size < 7
  · rw [if_pos (by omega)]
    exact hplain (by unfold isShared; rw [decide_eq_false (by omega)]; rfl)
  · rw [if_neg (by omega), if_pos (by omega), if_pos (by omega)]
    cases hh : ((s.extract 0 7).toList == ([36, 115, 104, 97, 114, 101, 47] : List UInt8)) with
    | false =>
      rw [show ((s.extract 0 7).toList != ([36, 115, 104, 97, 114, 101, 47] : List UInt8)) = true by unfold bne; rw [hh]; rfl]
      exact hplain (by unfold isShared; rw [hpre, hh, Bool.and_false])
    | true =>
      rw [show ((s.extract 0 7).toList != ([36, 115, 104, 97, 114, 101, 47] : List UInt8)) = false by unfold bne; rw [hh]; rfl]
      have hsh : isShared s = true := by unfold isShared; rw [hpre, hh, decide_eq_true (by omega)]; rfl
      have hl := leftS_size s
      have := rsplit_l0 s hs (by omega) (leftS s).data.toList.length 0 k (by omega) (by simp) (by omega)
      simp only [switchboardref10_Split.j0, Bool.false_eq_true, if_false]
      rw [List.take_zero] at this
      unfold splitT
      rw [hsh, if_pos rfl, ← this]
      rfl
theorem goodB_plain (l : List UInt8) (h : ∀ x ∈ l, 0 < x.toNat ∧ x.toNat < 128) (hs : l.length ≤ 65535) : goodB ⟨l.toArray⟩ = true := (goodB_of (goodW_plain l h) (by rw [Lib.size_eq]; simpa using hs)).symm
theorem nameB_plain (l : List UInt8) (h0 : 0 < l.length) (h1 : l.length < 32) (h : ∀ x ∈ l, 0 < x.toNat ∧ x.toNat < 128 ∧ plusHash.contains x = false) : nameB ⟨l.toArray⟩ = true := (nameB_of (nameW_plain l h0 h1 h) (by rw [Lib.size_eq]; simp; omega)).symm
theorem aw_m0 : matchB ⟨#[97, 47, 43]⟩ ⟨#[97, 47, 98]⟩ = true := by
  simp [matchB, hidB, signFirst, levelsOf, levelsL, splitP, toB, meetsL, Lib.toList_data, Lib.extract_eq, ByteArray.size]
theorem aw_m1 : matchB ⟨#[97, 47, 43]⟩ ⟨#[97]⟩ = false := by
  simp [matchB, hidB, signFirst, levelsOf, levelsL, splitP, toB, meetsL, Lib.toList_data, Lib.extract_eq, ByteArray.size]
theorem aw_m2 : matchB ⟨#[97, 47, 35]⟩ ⟨#[97]⟩ = true := by
  simp [matchB, hidB, signFirst, levelsOf, levelsL, splitP, toB, meetsL, Lib.toList_data, Lib.extract_eq, ByteArray.size]
theorem aw_m3 : matchB ⟨#[35]⟩ ⟨#[36, 120]⟩ = false := by
  simp [matchB, hidB, signFirst, levelsOf, levelsL, splitP, toB, meetsL, Lib.toList_data, Lib.extract_eq, ByteArray.size]
theorem aw_s : splitT ⟨#[36, 115, 104, 97, 114, 101, 47, 103, 47, 97, 47, 43]⟩ = (⟨#[103]⟩, ⟨#[97, 47, 43]⟩, true) := by
  have h1 : isShared ⟨#[36, 115, 104, 97, 114, 101, 47, 103, 47, 97, 47, 43]⟩ = true := by simp [isShared, preB, Lib.toList_data, Lib.extract_eq, ByteArray.size]
  have hl : (leftS ⟨#[36, 115, 104, 97, 114, 101, 47, 103, 47, 97, 47, 43]⟩).data.toList = [103, 47, 97, 47, 43] := by simp [leftS, Lib.extract_eq, ByteArray.size]
  have h2 : goodB ⟨#[103]⟩ = true := goodB_plain [103] (by decide) (by decide)
  have h3 : goodB ⟨#[97, 47, 43]⟩ = true := goodB_plain [97, 47, 43] (by decide) (by decide)
  have h4 : okL (levelsOf ⟨#[97, 47, 43]⟩) = true := by
    have s1 : signsB ⟨#[97]⟩ = false := by decide
    simp [levelsOf, levelsL, splitP, toB, okL, levelOk, Lib.toList_data, s1]
  have h5 : filterB ⟨#[97, 47, 43]⟩ = true := by
    unfold filterB textB
    rw [h3, h4]
    decide
  have h6 : signsB ⟨#[103]⟩ = false := by decide
  unfold splitT
  rw [h1, if_pos rfl, hl]
  have hi : Lib.indexByte [103, 47, 97, 47, 43] 47 = 1 := by decide
  rw [hi, if_pos (by decide)]
  have hg : cutG [103, 47, 97, 47, 43] = ⟨#[103]⟩ := by unfold cutG; rw [hi]; rfl
  have hf : cutF [103, 47, 97, 47, 43] = ⟨#[97, 47, 43]⟩ := by unfold cutF; rw [hi]; rfl
  rw [hg, hf]
  unfold partT
  rw [h2, h5, h6]
  rfl
theorem aw_n : nameB ⟨#[97]⟩ = true := nameB_plain [97] (by decide) (by decide) (by decide)
theorem aw_n2 : nameB ⟨#[97, 47, 35]⟩ = false := (nameB_of nameW_slash_hash (by decide)).symm
set_option maxHeartbeats 4000000 in
set_option maxRecDepth 1000000 in
theorem awake10_calls (w : World) (hm : HasM w) : Calls Tryd.prog 21 #[] w fun e w' => e = .returned (.bool true) ∧ Below w.heap.size w w' := by
  have HM := Lib.hid hm
  have HB := Lib.hid (Below.refl w.heap.size w)
  have HS := Lib.hid (fun W hm => split_calls ⟨#[36, 115, 104, 97, 114, 101, 47, 103, 47, 97, 47, 43]⟩ W hm (by decide))
  rw [aw_s] at HS
  have HM0 := Lib.hid (fun W hm => match_calls ⟨#[97, 47, 43]⟩ ⟨#[97, 47, 98]⟩ W hm (by decide) (by decide))
  rw [aw_m0] at HM0
  have HM1 := Lib.hid (fun W hm => match_calls ⟨#[97, 47, 43]⟩ ⟨#[97]⟩ W hm (by decide) (by decide))
  rw [aw_m1] at HM1
  have HM2 := Lib.hid (fun W hm => match_calls ⟨#[97, 47, 35]⟩ ⟨#[97]⟩ W hm (by decide) (by decide))
  rw [aw_m2] at HM2
  have HM3 := Lib.hid (fun W hm => match_calls ⟨#[35]⟩ ⟨#[36, 120]⟩ W hm (by decide) (by decide))
  rw [aw_m3] at HM3
  have HN1 := Lib.hid (fun W => name_callsB ⟨#[97]⟩ W (by decide))
  rw [aw_n] at HN1
  have HN2 := Lib.hid (fun W => name_callsB ⟨#[97, 47, 35]⟩ W (by decide))
  rw [aw_n2] at HN2
  clear hm
  go_enter Tryd.func21, Tryd.ntmps21
  go_wp2_with (first
    | (go_at_call 19; refine (HS.out _ (HM.out.to HB.out)).mono ?_; rintro e w1 ⟨rfl, hb⟩; have HB1 := Lib.hid (HB.out.trans (hb.mono HB.out.size)); clear HB hb HS; have HB := HB1; clear HB1)
    | (go_at_call 28; refine (HM0.out _ (HM.out.to HB.out)).mono ?_; rintro e w1 ⟨rfl, hb⟩; have HB1 := Lib.hid (HB.out.trans (hb.mono HB.out.size)); clear HB hb HM0; have HB := HB1; clear HB1)
    | (go_at_call 28; refine (HM1.out _ (HM.out.to HB.out)).mono ?_; rintro e w1 ⟨rfl, hb⟩; have HB1 := Lib.hid (HB.out.trans (hb.mono HB.out.size)); clear HB hb HM1; have HB := HB1; clear HB1)
    | (go_at_call 28; refine (HM2.out _ (HM.out.to HB.out)).mono ?_; rintro e w1 ⟨rfl, hb⟩; have HB1 := Lib.hid (HB.out.trans (hb.mono HB.out.size)); clear HB hb HM2; have HB := HB1; clear HB1)
    | (go_at_call 28; refine (HM3.out _ (HM.out.to HB.out)).mono ?_; rintro e w1 ⟨rfl, hb⟩; have HB1 := Lib.hid (HB.out.trans (hb.mono HB.out.size)); clear HB hb HM3; have HB := HB1; clear HB1)
    | (go_at_call 16; refine (HN1.out _).mono ?_; rintro e w1 ⟨rfl, hb⟩; have HB1 := Lib.hid (HB.out.trans (hb.mono HB.out.size)); clear HB hb HN1; have HB := HB1; clear HB1)
    | (go_at_call 16; refine (HN2.out _).mono ?_; rintro e w1 ⟨rfl, hb⟩; have HB1 := Lib.hid (HB.out.trans (hb.mono HB.out.size)); clear HB hb HN2; have HB := HB1; clear HB1))
  go_ret
  exact ⟨rfl, HB.out⟩
def cutS (T : ByteArray) (n : Nat) : ByteArray := if n < T.size then T.extract 0 n else T
theorem cutS_size (T : ByteArray) (n : Nat) : (cutS T n).size ≤ n := by
  unfold cutS
  split
  · rw [ByteArray.size_extract]; omega
  · omega
theorem cut_f (T : ByteArray) (n : Nat) : switchboardlaw01_Cut.f T n = some (cutS T n) := by
  unfold switchboardlaw01_Cut.f cutS
  by_cases h : n < T.size
  · rw [if_pos h, if_pos (by omega), if_pos (by omega), if_pos (by omega)]
    rfl
  · rw [if_neg h, if_neg (by omega)]
set_option maxHeartbeats 4000000 in
set_option maxRecDepth 1000000 in
theorem matches_calls (f0 n0 : ByteArray) (w : World) (hm : HasM w) : Calls Tryd.prog 5 #[.string f0, .string n0] w fun e w' => e = .returned (.bool true) ∧ Below w.heap.size w w' := by
  have HM := Lib.hid hm
  have HB := Lib.hid (Below.refl w.heap.size w)
  have HC1 := Lib.hid (cut_f f0 80)
  have HC2 := Lib.hid (cut_f n0 80)
  have hs1 := cutS_size f0 80
  have hs2 := cutS_size n0 80
  generalize cutS f0 80 = f at HC1 hs1
  generalize cutS n0 80 = n at HC2 hs2
  have HMC := Lib.hid (fun W hm => match_calls f n W hm (by omega) (by omega))
  have HMR := Lib.hid (match_f f n (by omega) (by omega) 1000 (by omega))
  generalize matchB f n = mb at HMC HMR
  clear hm hs1 hs2
  go_enter Tryd.func5, Tryd.ntmps5
  go_wp2_with (first
    | (go_at_call 10; refine (switchboardlaw01_Cut.calls f0 80 _ _ HC1.out).mono ?_; rintro e w1 ⟨rfl, hd⟩; have HB1 := Lib.hid (HB.out.trans ((hd.below).mono HB.out.size)); clear HB hd HC1; have HB := HB1; clear HB1)
    | (go_at_call 10; refine (switchboardlaw01_Cut.calls n0 80 _ _ HC2.out).mono ?_; rintro e w1 ⟨rfl, hd⟩; have HB1 := Lib.hid (HB.out.trans ((hd.below).mono HB.out.size)); clear HB hd HC2; have HB := HB1; clear HB1)
    | (go_at_call 21; refine (awake10_calls _ (HM.out.to HB.out)).mono ?_; rintro e w1 ⟨rfl, hb⟩; have HB1 := Lib.hid (HB.out.trans ((hb).mono HB.out.size)); clear HB hb ; have HB := HB1; clear HB1)
    | (go_at_call 28; refine (HMC.out _ (HM.out.to HB.out)).mono ?_; rintro e w1 ⟨rfl, hb⟩; have HB1 := Lib.hid (HB.out.trans ((hb).mono HB.out.size)); clear HB hb ; have HB := HB1; clear HB1)
    | (go_at_call 29; refine (switchboardref10_Match.calls 1000 f n mb _ HMR.out).mono ?_; rintro e w1 ⟨rfl, hb⟩; have HB1 := Lib.hid (HB.out.trans ((hb).mono HB.out.size)); clear HB hb ; have HB := HB1; clear HB1))
  go_ret
  exact ⟨rfl, HB.out⟩
theorem same_l0 (L : List ByteArray) (hL : L.length ≤ 1000000) : ∀ r j k : Nat, j + r = L.length → r + 1 ≤ k → switchboardlaw10_same.l0 k L L (L.length : Int) (j : Int) = some true
  | 0, j, k, hj, hk => by
    obtain ⟨k, rfl⟩ : ∃ q, k = q + 1 := ⟨k - 1, by omega⟩
    simp only [switchboardlaw10_same.l0]
    rw [if_neg (by omega)]
  | r + 1, j, k, hj, hk => by
    obtain ⟨k, rfl⟩ : ∃ q, k = q + 1 := ⟨k - 1, by omega⟩
    have e1 : wrap64 ((j : Int) + 1) = ((j + 1 : Nat) : Int) := by rw [w64 (by omega) (by omega)]; push_cast; rfl
    simp only [switchboardlaw10_same.l0, e1]
    rw [if_pos (by omega), if_pos (by omega), if_pos (by omega), if_pos (by omega), if_pos trivial]
    exact same_l0 L hL r (j + 1) k (by omega) (by omega)
theorem same_f (L : List ByteArray) (hL : L.length ≤ 1000000) (k : Nat) (hk : L.length + 1 ≤ k) : switchboardlaw10_same.f k L L = some true := by
  unfold switchboardlaw10_same.f
  rw [if_pos rfl]
  exact same_l0 L hL L.length 0 k (by omega) hk
set_option maxHeartbeats 4000000 in
set_option maxRecDepth 1000000 in
theorem reads_calls (s0 : ByteArray) (w : World) (hm : HasM w) : Calls Tryd.prog 4 #[.string s0] w fun e w' => e = .returned (.bool true) ∧ Below w.heap.size w w' := by
  have HM := Lib.hid hm
  have HB := Lib.hid (Below.refl w.heap.size w)
  have HC1 := Lib.hid (cut_f s0 120)
  have hs := cutS_size s0 120
  generalize cutS s0 120 = s at HC1 hs
  have HSP := Lib.hid (fun W hm => split_calls s W hm (by omega))
  have HSR := Lib.hid (split_fB s (by omega) 100000 (by omega))
  generalize splitT s = sp at HSP HSR
  obtain ⟨g, f, k⟩ := sp
  have HLV := Lib.hid (fun W hm => levels_calls s W hm (by omega))
  unfold LevelsPost at HLV
  have HLR := Lib.hid (rlevels_f s (by omega) 1000 (by omega))
  have hll : (levelsOf s).length ≤ 121 := by rw [← split_count]; have := count_small s; omega
  generalize levelsOf s = L at HLV HLR hll
  have HSM := Lib.hid (same_f L (by omega) 1000 (by omega))
  have HN := Lib.hid (fun W => name_callsB s W (by omega))
  have HNR := Lib.hid (name_fB s (by omega) 1000 (by omega))
  generalize nameB s = nb at HN HNR
  have HF := Lib.hid (fun W hm => filter_callsB s W hm (by omega))
  have HFR := Lib.hid (filter_fB s (by omega) 100000 (by omega))
  generalize filterB s = fb at HF HFR
  have HH := Lib.hid (hidden_f s)
  have hha := hidB_at s
  generalize hidB s = hb0 at HH hha
  clear hm hll
  by_cases h0 : 0 < s.size
  · have hem := isEmpty_of s h0
    rw [if_pos h0] at hha
    have hb36 : (((s[0]'h0).toNat : Int) == 36) = hb0 := by
      have hba := byteAt_of (s := s) (k := 0) h0
      rw [hha, ← hba]
      by_cases h : byteAt s 0 = 36
      · rw [decide_eq_true h, h]; rfl
      · rw [decide_eq_false h]; exact beq_eq_false_iff_ne.2 (by omega)
    clear hha hs
    go_enter Tryd.func4, Tryd.ntmps4
    go_wp2_with (first
      | (go_at_call 10; refine (switchboardlaw01_Cut.calls s0 120 _ _ HC1.out).mono ?_; rintro e w1 ⟨rfl, hd⟩; have HB1 := Lib.hid (HB.out.trans ((hd.below).mono HB.out.size)); clear HB hd HC1; have HB := HB1; clear HB1)
      | (go_at_call 19; refine (HSP.out _ (HM.out.to HB.out)).mono ?_; rintro e w1 ⟨rfl, hb⟩; have HB1 := Lib.hid (HB.out.trans ((hb).mono HB.out.size)); clear HB hb ; have HB := HB1; clear HB1)
      | (go_at_call 20; refine (switchboardref10_Split.calls 100000 s _ _ _ _ HSR.out).mono ?_; rintro e w1 ⟨rfl, hb⟩; have HB1 := Lib.hid (HB.out.trans ((hb).mono HB.out.size)); clear HB hb ; have HB := HB1; clear HB1)
      | (go_at_call 21; refine (awake10_calls _ (HM.out.to HB.out)).mono ?_; rintro e w1 ⟨rfl, hb⟩; have HB1 := Lib.hid (HB.out.trans ((hb).mono HB.out.size)); clear HB hb ; have HB := HB1; clear HB1)
      | (go_at_call 23; refine (HLV.out _ (HM.out.to HB.out)).mono ?_; rintro e w1 hp; obtain ⟨A1, c1, rfl, hR, hb⟩ := hp; have HR1 := Lib.hid hR; have HB1 := Lib.hid (HB.out.trans (hb.mono HB.out.size)); clear HB hb hR; have HB := HB1; clear HB1)
      | (go_at_call 24; refine (switchboardref10_Levels.calls 1000 s _ _ HLR.out).mono ?_; rintro e w2 hp; obtain ⟨v2, rfl, hR, hb⟩ := hp; obtain ⟨A2, c2, rfl⟩ := Kd.R_slice hR; have HR2 := Lib.hid hR; have HR1b := Lib.hid (Kd.R_below HR1.out hb); have HB1 := Lib.hid (HB.out.trans (hb.mono HB.out.size)); clear HB hb hR HR1; have HB := HB1; clear HB1)
      | (go_at_call 22; refine (switchboardlaw10_same.calls 1000 A1 c1 L A2 c2 L true _ (Kd.R_reads' HR1b.out).2.2 (Kd.R_reads' HR1b.out).2.1 (Kd.R_reads' HR2.out).2.2 (Kd.R_reads' HR2.out).2.1 HSM.out).mono ?_; rintro e w1 ⟨rfl, hd⟩; have HB1 := Lib.hid (HB.out.trans ((hd.below).mono HB.out.size)); clear HB hd ; have HB := HB1; clear HB1)
      | (go_at_call 16; refine (HN.out _).mono ?_; rintro e w1 ⟨rfl, hb⟩; have HB1 := Lib.hid (HB.out.trans ((hb).mono HB.out.size)); clear HB hb ; have HB := HB1; clear HB1)
      | (go_at_call 25; refine (switchboardref10_Name.calls 1000 s _ _ HNR.out).mono ?_; rintro e w1 ⟨rfl, hb⟩; have HB1 := Lib.hid (HB.out.trans ((hb).mono HB.out.size)); clear HB hb ; have HB := HB1; clear HB1)
      | (go_at_call 17; refine (HF.out _ (HM.out.to HB.out)).mono ?_; rintro e w1 ⟨rfl, hb⟩; have HB1 := Lib.hid (HB.out.trans ((hb).mono HB.out.size)); clear HB hb ; have HB := HB1; clear HB1)
      | (go_at_call 26; refine (switchboardref10_Filter.calls 100000 s _ _ HFR.out).mono ?_; rintro e w1 ⟨rfl, hb⟩; have HB1 := Lib.hid (HB.out.trans ((hb).mono HB.out.size)); clear HB hb ; have HB := HB1; clear HB1)
      | (go_at_call 27; refine (topic_Hidden.calls s _ _ HH.out).mono ?_; rintro e w1 ⟨rfl, hd⟩; have HB1 := Lib.hid (HB.out.trans ((hd.below).mono HB.out.size)); clear HB hd ; have HB := HB1; clear HB1))
    go_ret
    exact ⟨rfl, HB.out⟩
  · have hem := isEmpty_nil s (by omega)
    rw [if_neg h0] at hha
    subst hha
    clear h0 hs
    go_enter Tryd.func4, Tryd.ntmps4
    go_wp2_with (first
      | (go_at_call 10; refine (switchboardlaw01_Cut.calls s0 120 _ _ HC1.out).mono ?_; rintro e w1 ⟨rfl, hd⟩; have HB1 := Lib.hid (HB.out.trans ((hd.below).mono HB.out.size)); clear HB hd HC1; have HB := HB1; clear HB1)
      | (go_at_call 19; refine (HSP.out _ (HM.out.to HB.out)).mono ?_; rintro e w1 ⟨rfl, hb⟩; have HB1 := Lib.hid (HB.out.trans ((hb).mono HB.out.size)); clear HB hb ; have HB := HB1; clear HB1)
      | (go_at_call 20; refine (switchboardref10_Split.calls 100000 s _ _ _ _ HSR.out).mono ?_; rintro e w1 ⟨rfl, hb⟩; have HB1 := Lib.hid (HB.out.trans ((hb).mono HB.out.size)); clear HB hb ; have HB := HB1; clear HB1)
      | (go_at_call 21; refine (awake10_calls _ (HM.out.to HB.out)).mono ?_; rintro e w1 ⟨rfl, hb⟩; have HB1 := Lib.hid (HB.out.trans ((hb).mono HB.out.size)); clear HB hb ; have HB := HB1; clear HB1)
      | (go_at_call 23; refine (HLV.out _ (HM.out.to HB.out)).mono ?_; rintro e w1 hp; obtain ⟨A1, c1, rfl, hR, hb⟩ := hp; have HR1 := Lib.hid hR; have HB1 := Lib.hid (HB.out.trans (hb.mono HB.out.size)); clear HB hb hR; have HB := HB1; clear HB1)
      | (go_at_call 24; refine (switchboardref10_Levels.calls 1000 s _ _ HLR.out).mono ?_; rintro e w2 hp; obtain ⟨v2, rfl, hR, hb⟩ := hp; obtain ⟨A2, c2, rfl⟩ := Kd.R_slice hR; have HR2 := Lib.hid hR; have HR1b := Lib.hid (Kd.R_below HR1.out hb); have HB1 := Lib.hid (HB.out.trans (hb.mono HB.out.size)); clear HB hb hR HR1; have HB := HB1; clear HB1)
      | (go_at_call 22; refine (switchboardlaw10_same.calls 1000 A1 c1 L A2 c2 L true _ (Kd.R_reads' HR1b.out).2.2 (Kd.R_reads' HR1b.out).2.1 (Kd.R_reads' HR2.out).2.2 (Kd.R_reads' HR2.out).2.1 HSM.out).mono ?_; rintro e w1 ⟨rfl, hd⟩; have HB1 := Lib.hid (HB.out.trans ((hd.below).mono HB.out.size)); clear HB hd ; have HB := HB1; clear HB1)
      | (go_at_call 16; refine (HN.out _).mono ?_; rintro e w1 ⟨rfl, hb⟩; have HB1 := Lib.hid (HB.out.trans ((hb).mono HB.out.size)); clear HB hb ; have HB := HB1; clear HB1)
      | (go_at_call 25; refine (switchboardref10_Name.calls 1000 s _ _ HNR.out).mono ?_; rintro e w1 ⟨rfl, hb⟩; have HB1 := Lib.hid (HB.out.trans ((hb).mono HB.out.size)); clear HB hb ; have HB := HB1; clear HB1)
      | (go_at_call 17; refine (HF.out _ (HM.out.to HB.out)).mono ?_; rintro e w1 ⟨rfl, hb⟩; have HB1 := Lib.hid (HB.out.trans ((hb).mono HB.out.size)); clear HB hb ; have HB := HB1; clear HB1)
      | (go_at_call 26; refine (switchboardref10_Filter.calls 100000 s _ _ HFR.out).mono ?_; rintro e w1 ⟨rfl, hb⟩; have HB1 := Lib.hid (HB.out.trans ((hb).mono HB.out.size)); clear HB hb ; have HB := HB1; clear HB1)
      | (go_at_call 27; refine (topic_Hidden.calls s _ _ HH.out).mono ?_; rintro e w1 ⟨rfl, hd⟩; have HB1 := Lib.hid (HB.out.trans ((hd.below).mono HB.out.size)); clear HB hd ; have HB := HB1; clear HB1))
    go_ret
    exact ⟨rfl, HB.out⟩
end Go.Proofs.YtjlohmhmnghjkaaDoor

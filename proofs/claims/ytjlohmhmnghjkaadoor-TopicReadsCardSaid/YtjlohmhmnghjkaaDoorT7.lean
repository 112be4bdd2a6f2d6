/- topic.Split, and the reference's. -/
import Derived.Test.YtjlohmhmnghjkaaDoorT6
namespace Go.Proofs.YtjlohmhmnghjkaaDoor
open Go.RowKit Go.Lib Go.Proofs.YtjlohmhmnghjkaaDoorW.PrintWords Go.Proofs.YtjlohmhmnghjkaaDoor.PTopicReads
set_option linter.unusedVariables false
set_option linter.unusedSimpArgs false

def preB : ByteArray := ⟨#[36, 115, 104, 97, 114, 101, 47]⟩
def isShared (s : ByteArray) : Bool := decide (7 ≤ s.size) && ((s.extract 0 7).toList == preB.toList)
def leftS (s : ByteArray) : ByteArray := s.extract 7 s.size
/-- Cut around the first slash. -/
def cutG (l : List UInt8) : ByteArray := toB (l.take (Lib.indexByte l 47).toNat)
def cutF (l : List UInt8) : ByteArray := toB (l.drop ((Lib.indexByte l 47).toNat + 1))
def partT (g f : ByteArray) : ByteArray × ByteArray × Bool := if decide (0 < g.size) && filterB f && goodB g && !signsB g then (g, f, true) else (⟨#[]⟩, ⟨#[]⟩, false)
def splitT (s : ByteArray) : ByteArray × ByteArray × Bool :=
  if isShared s then (if 0 ≤ Lib.indexByte (leftS s).data.toList 47 then partT (cutG (leftS s).data.toList) (cutF (leftS s).data.toList) else (⟨#[]⟩, ⟨#[]⟩, false)) else (⟨#[]⟩, s, filterB s)
theorem cutprefix_f (s : ByteArray) : strings_CutPrefix.f s preB = some (if isShared s then leftS s else s, isShared s) := by
  unfold strings_CutPrefix.f stringslite_CutPrefix.f stringslite_HasPrefix.f isShared leftS
  have e : (preB.size : Int) = 7 := rfl
  rw [e]
  by_cases h : 7 ≤ s.size
  · rw [if_pos (by omega), if_pos (by omega), if_pos (by omega), decide_eq_true h, Bool.true_and]
    simp only [Option.bind_some]
    rw [show (7 : Int).toNat = 7 from rfl]
    cases (s.extract 0 7).toList == preB.toList with
    | false => rfl
    | true => rw [if_pos rfl, if_pos (by omega), if_pos (by omega)]; rfl
  · rw [if_neg (by omega), decide_eq_false h]
    rfl
theorem cutG_size (l : List UInt8) : (cutG l).size ≤ l.length := by
  unfold cutG toB
  rw [Lib.size_eq]
  simp
  omega
theorem cutF_size (l : List UInt8) : (cutF l).size ≤ l.length := by
  unfold cutF toB
  rw [Lib.size_eq]
  simp
theorem leftS_size (s : ByteArray) : (leftS s).data.toList.length ≤ s.size := by
  rw [← Lib.size_eq]
  unfold leftS
  rw [ByteArray.size_extract]
  omega
theorem cut_calls (s : ByteArray) (w : World) (hm : HasM w) (hs : s.size < 4294967281) : Calls Tryd.prog 45 #[.string s, .string ⟨#[47]⟩] w fun e w' =>
    e = .returned (.tuple #[.string (if 0 ≤ Lib.indexByte s.data.toList 47 then cutG s.data.toList else s), .string (if 0 ≤ Lib.indexByte s.data.toList 47 then cutF s.data.toList else ⟨#[]⟩), .bool (decide (0 ≤ Lib.indexByte s.data.toList 47))]) ∧ Below w.heap.size w w' := by
  obtain ⟨m, hm⟩ := hm
  refine (Tryd.strings_Cut s ⟨#[47]⟩ m w hs hm).mono ?_
  rintro e w' ⟨rfl, n, rfl⟩
  refine ⟨?_, pw_below_drewN (Below.refl _ _) _⟩
  have e1 : (⟨#[47]⟩ : ByteArray).data.toList = [47] := rfl
  unfold Lib.cut
  rw [e1, Lib.index_one]
  by_cases h : 0 ≤ Lib.indexByte s.data.toList 47
  · rw [if_pos h, if_pos h, if_pos h, decide_eq_true h]; rfl
  · rw [if_neg h, if_neg h, if_neg h, decide_eq_false h]
set_option maxHeartbeats 4000000 in
set_option maxRecDepth 1000000 in
theorem split_calls (s : ByteArray) (w : World) (hm : HasM w) (hs : s.size ≤ 65535) : Calls Tryd.prog 19 #[.string s] w fun e w' => e = .returned (.tuple #[.string (splitT s).1, .string (splitT s).2.1, .bool (splitT s).2.2]) ∧ Below w.heap.size w w' := by
  have HCP := Lib.hid (cutprefix_f s)
  have HM := Lib.hid hm
  have HB := Lib.hid (Below.refl w.heap.size w)
  obtain ⟨g0, f0, k0, hT⟩ : ∃ g f k, splitT s = (g, f, k) := ⟨_, _, _, rfl⟩
  rw [hT]
  have hT2 := hT
  unfold splitT at hT2
  cases hsh : isShared s with
  | false =>
    rw [hsh] at hT2 HCP
    simp only [Bool.false_eq_true, if_false, Prod.mk.injEq] at hT2 HCP
    obtain ⟨rfl, rfl, rfl⟩ := hT2
    have HF := Lib.hid (fun W hm => filter_callsB s W hm hs)
    clear hsh hT hm hs
    go_enter Tryd.func19, Tryd.ntmps19
    go_wp2_with (first | (go_at_call 44; refine (strings_CutPrefix.calls s preB _ _ _ HCP.out).mono ?_; rintro e w1 ⟨rfl, hd⟩; have HB1 := Lib.hid (HB.out.trans (hd.below.mono HB.out.size)); clear HB hd; have HB := HB1; clear HB1) | (go_at_call 45; refine (HCUT.out _ (HM.out.to HB.out)).mono ?_; rintro e w1 ⟨rfl, hb⟩; have HB1 := Lib.hid (HB.out.trans (hb.mono HB.out.size)); clear HB hb; have HB := HB1; clear HB1) | (go_at_call 17; refine (HF.out _ (HM.out.to HB.out)).mono ?_; rintro e w1 ⟨rfl, hb⟩; have HB1 := Lib.hid (HB.out.trans (hb.mono HB.out.size)); clear HB hb; have HB := HB1; clear HB1) | (go_at_call 40; refine (HG.out _).mono ?_; rintro e w1 ⟨rfl, hb⟩; have HB1 := Lib.hid (HB.out.trans (hb.mono HB.out.size)); clear HB hb; have HB := HB1; clear HB1) | (go_at_call 43; refine (HS.out _).mono ?_; rintro e w1 ⟨rfl, hb⟩; have HB1 := Lib.hid (HB.out.trans (hb.mono HB.out.size)); clear HB hb; have HB := HB1; clear HB1))
    go_ret3
    exact ⟨rfl, HB.out⟩
  | true =>
    rw [hsh] at hT2 HCP
    simp only [if_true] at hT2 HCP
    have hls := leftS_size s
    have hgs := cutG_size (leftS s).data.toList
    have hfs := cutF_size (leftS s).data.toList
    have HCUT := Lib.hid (fun W hm => cut_calls (leftS s) W hm (by rw [Lib.size_eq]; omega))
    by_cases hix : 0 ≤ Lib.indexByte (leftS s).data.toList 47
    · rw [if_pos hix] at hT2
      simp only [if_pos hix, decide_eq_true hix] at HCUT
      generalize cutG (leftS s).data.toList = g at hT2 HCUT hgs
      generalize cutF (leftS s).data.toList = f at hT2 HCUT hfs
      generalize leftS s = L at HCP HCUT
      have HF := Lib.hid (fun W hm => filter_callsB f W hm (by omega))
      have HG := Lib.hid (fun W => good_callsB g W (by omega))
      have HS := Lib.hid (fun W => containsAny_any g W (by omega))
      unfold partT at hT2
      generalize filterB f = bf at hT2 HF
      generalize goodB g = bg at hT2 HG
      generalize signsB g = bs at hT2 HS
      by_cases hg0 : g.size = 0
      · have hem := isEmpty_nil g hg0
        rw [decide_eq_false (by omega)] at hT2
        simp only [Bool.false_and, Bool.false_eq_true, if_false, Prod.mk.injEq] at hT2
        obtain ⟨rfl, rfl, rfl⟩ := hT2
        clear hsh hT hm hs hls hgs hfs hix hg0
        go_enter Tryd.func19, Tryd.ntmps19
        go_wp2_with (first | (go_at_call 44; refine (strings_CutPrefix.calls s preB _ _ _ HCP.out).mono ?_; rintro e w1 ⟨rfl, hd⟩; have HB1 := Lib.hid (HB.out.trans (hd.below.mono HB.out.size)); clear HB hd; have HB := HB1; clear HB1) | (go_at_call 45; refine (HCUT.out _ (HM.out.to HB.out)).mono ?_; rintro e w1 ⟨rfl, hb⟩; have HB1 := Lib.hid (HB.out.trans (hb.mono HB.out.size)); clear HB hb; have HB := HB1; clear HB1) | (go_at_call 17; refine (HF.out _ (HM.out.to HB.out)).mono ?_; rintro e w1 ⟨rfl, hb⟩; have HB1 := Lib.hid (HB.out.trans (hb.mono HB.out.size)); clear HB hb; have HB := HB1; clear HB1) | (go_at_call 40; refine (HG.out _).mono ?_; rintro e w1 ⟨rfl, hb⟩; have HB1 := Lib.hid (HB.out.trans (hb.mono HB.out.size)); clear HB hb; have HB := HB1; clear HB1) | (go_at_call 43; refine (HS.out _).mono ?_; rintro e w1 ⟨rfl, hb⟩; have HB1 := Lib.hid (HB.out.trans (hb.mono HB.out.size)); clear HB hb; have HB := HB1; clear HB1))
        go_ret3
        exact ⟨rfl, HB.out⟩
      · have hem := isEmpty_of g (by omega)
        rw [decide_eq_true (by omega)] at hT2
        clear hsh hT hm hs hls hgs hfs hix hg0
        cases bf with
        | false =>
          simp only [Bool.false_and, Bool.and_false, Bool.false_eq_true, if_false, Prod.mk.injEq] at hT2
          obtain ⟨rfl, rfl, rfl⟩ := hT2
          go_enter Tryd.func19, Tryd.ntmps19
          go_wp2_with (first | (go_at_call 44; refine (strings_CutPrefix.calls s preB _ _ _ HCP.out).mono ?_; rintro e w1 ⟨rfl, hd⟩; have HB1 := Lib.hid (HB.out.trans (hd.below.mono HB.out.size)); clear HB hd; have HB := HB1; clear HB1) | (go_at_call 45; refine (HCUT.out _ (HM.out.to HB.out)).mono ?_; rintro e w1 ⟨rfl, hb⟩; have HB1 := Lib.hid (HB.out.trans (hb.mono HB.out.size)); clear HB hb; have HB := HB1; clear HB1) | (go_at_call 17; refine (HF.out _ (HM.out.to HB.out)).mono ?_; rintro e w1 ⟨rfl, hb⟩; have HB1 := Lib.hid (HB.out.trans (hb.mono HB.out.size)); clear HB hb; have HB := HB1; clear HB1) | (go_at_call 40; refine (HG.out _).mono ?_; rintro e w1 ⟨rfl, hb⟩; have HB1 := Lib.hid (HB.out.trans (hb.mono HB.out.size)); clear HB hb; have HB := HB1; clear HB1) | (go_at_call 43; refine (HS.out _).mono ?_; rintro e w1 ⟨rfl, hb⟩; have HB1 := Lib.hid (HB.out.trans (hb.mono HB.out.size)); clear HB hb; have HB := HB1; clear HB1))
          go_ret3
          exact ⟨rfl, HB.out⟩
        | true =>
          cases bg with
          | false =>
            simp only [Bool.false_and, Bool.and_false, Bool.false_eq_true, if_false, Prod.mk.injEq] at hT2
            obtain ⟨rfl, rfl, rfl⟩ := hT2
            go_enter Tryd.func19, Tryd.ntmps19
            go_wp2_with (first | (go_at_call 44; refine (strings_CutPrefix.calls s preB _ _ _ HCP.out).mono ?_; rintro e w1 ⟨rfl, hd⟩; have HB1 := Lib.hid (HB.out.trans (hd.below.mono HB.out.size)); clear HB hd; have HB := HB1; clear HB1) | (go_at_call 45; refine (HCUT.out _ (HM.out.to HB.out)).mono ?_; rintro e w1 ⟨rfl, hb⟩; have HB1 := Lib.hid (HB.out.trans (hb.mono HB.out.size)); clear HB hb; have HB := HB1; clear HB1) | (go_at_call 17; refine (HF.out _ (HM.out.to HB.out)).mono ?_; rintro e w1 ⟨rfl, hb⟩; have HB1 := Lib.hid (HB.out.trans (hb.mono HB.out.size)); clear HB hb; have HB := HB1; clear HB1) | (go_at_call 40; refine (HG.out _).mono ?_; rintro e w1 ⟨rfl, hb⟩; have HB1 := Lib.hid (HB.out.trans (hb.mono HB.out.size)); clear HB hb; have HB := HB1; clear HB1) | (go_at_call 43; refine (HS.out _).mono ?_; rintro e w1 ⟨rfl, hb⟩; have HB1 := Lib.hid (HB.out.trans (hb.mono HB.out.size)); clear HB hb; have HB := HB1; clear HB1))
            go_ret3
            exact ⟨rfl, HB.out⟩
          | true =>
            cases bs with
            | true =>
              simp only [Bool.not_true, Bool.and_false, Bool.false_eq_true, if_false, Prod.mk.injEq] at hT2
              obtain ⟨rfl, rfl, rfl⟩ := hT2
              go_enter Tryd.func19, Tryd.ntmps19
              go_wp2_with (first | (go_at_call 44; refine (strings_CutPrefix.calls s preB _ _ _ HCP.out).mono ?_; rintro e w1 ⟨rfl, hd⟩; have HB1 := Lib.hid (HB.out.trans (hd.below.mono HB.out.size)); clear HB hd; have HB := HB1; clear HB1) | (go_at_call 45; refine (HCUT.out _ (HM.out.to HB.out)).mono ?_; rintro e w1 ⟨rfl, hb⟩; have HB1 := Lib.hid (HB.out.trans (hb.mono HB.out.size)); clear HB hb; have HB := HB1; clear HB1) | (go_at_call 17; refine (HF.out _ (HM.out.to HB.out)).mono ?_; rintro e w1 ⟨rfl, hb⟩; have HB1 := Lib.hid (HB.out.trans (hb.mono HB.out.size)); clear HB hb; have HB := HB1; clear HB1) | (go_at_call 40; refine (HG.out _).mono ?_; rintro e w1 ⟨rfl, hb⟩; have HB1 := Lib.hid (HB.out.trans (hb.mono HB.out.size)); clear HB hb; have HB := HB1; clear HB1) | (go_at_call 43; refine (HS.out _).mono ?_; rintro e w1 ⟨rfl, hb⟩; have HB1 := Lib.hid (HB.out.trans (hb.mono HB.out.size)); clear HB hb; have HB := HB1; clear HB1))
              go_ret3
              exact ⟨rfl, HB.out⟩
            | false =>
              simp only [Bool.not_false, Bool.and_true, if_true, Prod.mk.injEq] at hT2
              obtain ⟨rfl, rfl, rfl⟩ := hT2
              go_enter Tryd.func19, Tryd.ntmps19
              go_wp2_with (first | (go_at_call 44; refine (strings_CutPrefix.calls s preB _ _ _ HCP.out).mono ?_; rintro e w1 ⟨rfl, hd⟩; have HB1 := Lib.hid (HB.out.trans (hd.below.mono HB.out.size)); clear HB hd; have HB := HB1; clear HB1) | (go_at_call 45; refine (HCUT.out _ (HM.out.to HB.out)).mono ?_; rintro e w1 ⟨rfl, hb⟩; have HB1 := Lib.hid (HB.out.trans (hb.mono HB.out.size)); clear HB hb; have HB := HB1; clear HB1) | (go_at_call 17; refine (HF.out _ (HM.out.to HB.out)).mono ?_; rintro e w1 ⟨rfl, hb⟩; have HB1 := Lib.hid (HB.out.trans (hb.mono HB.out.size)); clear HB hb; have HB := HB1; clear HB1) | (go_at_call 40; refine (HG.out _).mono ?_; rintro e w1 ⟨rfl, hb⟩; have HB1 := Lib.hid (HB.out.trans (hb.mono HB.out.size)); clear HB hb; have HB := HB1; clear HB1) | (go_at_call 43; refine (HS.out _).mono ?_; rintro e w1 ⟨rfl, hb⟩; have HB1 := Lib.hid (HB.out.trans (hb.mono HB.out.size)); clear HB hb; have HB := HB1; clear HB1))
              go_ret3
              exact ⟨rfl, HB.out⟩
    · rw [if_neg hix] at hT2
      simp only [if_neg hix, decide_eq_false hix] at HCUT
      generalize leftS s = L at HCP HCUT
      simp only [Prod.mk.injEq] at hT2
      obtain ⟨rfl, rfl, rfl⟩ := hT2
      clear hsh hT hm hs hls hgs hfs hix
      go_enter Tryd.func19, Tryd.ntmps19
      go_wp2_with (first | (go_at_call 44; refine (strings_CutPrefix.calls s preB _ _ _ HCP.out).mono ?_; rintro e w1 ⟨rfl, hd⟩; have HB1 := Lib.hid (HB.out.trans (hd.below.mono HB.out.size)); clear HB hd; have HB := HB1; clear HB1) | (go_at_call 45; refine (HCUT.out _ (HM.out.to HB.out)).mono ?_; rintro e w1 ⟨rfl, hb⟩; have HB1 := Lib.hid (HB.out.trans (hb.mono HB.out.size)); clear HB hb; have HB := HB1; clear HB1) | (go_at_call 17; refine (HF.out _ (HM.out.to HB.out)).mono ?_; rintro e w1 ⟨rfl, hb⟩; have HB1 := Lib.hid (HB.out.trans (hb.mono HB.out.size)); clear HB hb; have HB := HB1; clear HB1) | (go_at_call 40; refine (HG.out _).mono ?_; rintro e w1 ⟨rfl, hb⟩; have HB1 := Lib.hid (HB.out.trans (hb.mono HB.out.size)); clear HB hb; have HB := HB1; clear HB1) | (go_at_call 43; refine (HS.out _).mono ?_; rintro e w1 ⟨rfl, hb⟩; have HB1 := Lib.hid (HB.out.trans (hb.mono HB.out.size)); clear HB hb; have HB := HB1; clear HB1))
      go_ret3
      exact ⟨rfl, HB.out⟩
end Go.Proofs.YtjlohmhmnghjkaaDoor

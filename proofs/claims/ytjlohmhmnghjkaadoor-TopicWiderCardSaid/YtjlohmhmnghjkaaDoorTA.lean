/- Levels, Filter, Match: topic's and the reference's; words as functions. -/
import Derived.Test.YtjlohmhmnghjkaaDoorI
import Derived.Lib.SplitLaws
import Derived.Lib.CutLaws
import Derived.Test.YtjlohmhmnghjkaaDoorQ6
namespace Go.Proofs.YtjlohmhmnghjkaaDoor
open Go.RowKit Go.Lib Go.Proofs.YtjlohmhmnghjkaaDoorW.PrintWords Go.Proofs.YtjlohmhmnghjkaaDoor.PTopicReads
set_option linter.unusedVariables false
set_option linter.unusedSimpArgs false

theorem string_eq_of {a b : ByteArray} (h : a.data.toList = b.data.toList) : a = b := by
  cases a; cases b
  simp only at h
  congr
  exact Array.toList_inj.1 h
def toB (l : List UInt8) : ByteArray := ⟨l.toArray⟩
theorem toB_list (s : ByteArray) : toB s.data.toList = s := by
  cases s
  simp [toB]
theorem toB_inj {a b : List UInt8} (h : toB a = toB b) : a = b := by
  have := congrArg (fun s : ByteArray => s.data.toList) h
  simpa [toB] using this
def splitP : List UInt8 → List UInt8 → List (List UInt8)
  | part, [] => [part]
  | part, b :: l => if b = 47 then part :: splitP [] l else splitP (part ++ [b]) l
def levelsL (l : List UInt8) : List (List UInt8) := splitP [] l
def levelsOf (s : ByteArray) : List ByteArray := (levelsL s.data.toList).map toB
theorem splitP_hit : ∀ (a b p : List UInt8), 47 ∉ a → splitP p (a ++ 47 :: b) = (p ++ a) :: splitP [] b
  | [], b, p, _ => by simp [splitP]
  | x :: a, b, p, h => by
    have hx : ¬ x = 47 := fun e => h (by rw [e]; simp)
    rw [List.cons_append, splitP, if_neg hx, splitP_hit a b (p ++ [x]) (fun e => h (by simp [e]))]
    simp
theorem splitP_miss : ∀ (a p : List UInt8), 47 ∉ a → splitP p a = [p ++ a]
  | [], p, _ => by simp [splitP]
  | x :: a, p, h => by
    have hx : ¬ x = 47 := fun e => h (by rw [e]; simp)
    rw [splitP, if_neg hx, splitP_miss a (p ++ [x]) (fun e => h (by simp [e]))]
    simp
theorem splitP_ne : ∀ (l p : List UInt8), splitP p l ≠ []
  | [], p => by simp [splitP]
  | x :: l, p => by
    unfold splitP
    split
    · simp
    · exact splitP_ne l _
theorem splitP_length : ∀ (l p : List UInt8), (splitP p l).length = l.count 47 + 1
  | [], p => rfl
  | x :: l, p => by
    unfold splitP
    by_cases h : x = 47
    · rw [if_pos h, List.length_cons, splitP_length l [], h, List.count_cons_self]
    · rw [if_neg h, splitP_length l (p ++ [x]), List.count_cons_of_ne (by simpa using h)]
theorem levelsOf_length (s : ByteArray) : (levelsOf s).length = Lib.countByte s.data.toList 47 + 1 := by
  unfold levelsOf levelsL
  rw [List.length_map, splitP_length]
  rfl
/-- Where the first slash is. -/
theorem slash_at {l : List UInt8} {o : Nat} (h : Lib.indexByte l 47 = o) : l = l.take o ++ 47 :: l.drop (o + 1) ∧ 47 ∉ l.take o := by
  obtain ⟨h1, h2⟩ := Lib.indexByte_some h
  obtain ⟨hlt, he⟩ := List.getElem?_eq_some_iff.1 h1
  refine ⟨?_, fun hm => ?_⟩
  · rw [← he, ← List.drop_eq_getElem_cons hlt, List.take_append_drop]
  · obtain ⟨k, hk, hk2⟩ := List.mem_iff_getElem.1 hm
    rw [List.getElem_take] at hk2
    refine h2 k (by rw [List.length_take] at hk; omega) ?_
    rw [List.getElem?_eq_getElem (by rw [List.length_take] at hk; omega), hk2]
theorem slash_none {l : List UInt8} (h : Lib.indexByte l 47 = -1) : 47 ∉ l := fun hm => by
  obtain ⟨k, hk, hk2⟩ := List.mem_iff_getElem.1 hm
  exact Lib.indexByte_none h k (by rw [List.getElem?_eq_getElem hk, hk2])
theorem indexB_slash (s : ByteArray) : Lib.indexB s ⟨#[47]⟩ = Lib.indexByte s.data.toList 47 := Lib.index_one s.data.toList 47
theorem splitB_levels : ∀ (k : Nat) (s : ByteArray), Lib.countB s ⟨#[47]⟩ = k → Lib.splitB ⟨#[47]⟩ 0 k s = levelsOf s
  | 0, s, hk => by
    rcases Lib.indexB_cases s ⟨#[47]⟩ with hix | ⟨i, hix, _⟩
    · rw [Lib.splitB_zero]
      rw [indexB_slash] at hix
      unfold levelsOf levelsL
      rw [splitP_miss _ _ (slash_none hix)]
      simp [toB_list]
    · have := Lib.countB_hit s ⟨#[47]⟩ i (by decide) hix
      omega
  | k + 1, s, hk => by
    rcases Lib.indexB_cases s ⟨#[47]⟩ with hix | ⟨i, hix, hroom⟩
    · rw [Lib.countB_miss s _ hix] at hk; omega
    · rw [Lib.splitB_hit ⟨#[47]⟩ 0 k s i hix, splitB_levels k _ (by have := Lib.countB_hit s ⟨#[47]⟩ i (by decide) hix; omega)]
      rw [indexB_slash] at hix
      obtain ⟨h1, h2⟩ := slash_at hix
      have e1 : s.extract 0 (i + 0) = toB (s.data.toList.take i) := string_eq_of (by rw [Lib.extract_eq]; simp [toB])
      have e2 : (s.extract (i + (⟨#[47]⟩ : ByteArray).size) s.size).data.toList = s.data.toList.drop (i + 1) := by
        rw [show (⟨#[47]⟩ : ByteArray).size = 1 from rfl, extract_from]
      unfold levelsOf levelsL
      rw [e1, e2]
      conv => rhs; rw [h1, splitP_hit _ _ _ h2]
      simp
theorem split_levels (s : ByteArray) : Lib.splitB ⟨#[47]⟩ 0 (Lib.countB s ⟨#[47]⟩) s = levelsOf s := splitB_levels _ s rfl
theorem split_count (s : ByteArray) : Lib.countB s ⟨#[47]⟩ + 1 = (levelsOf s).length := by
  rw [← split_levels, Lib.splitB_all ⟨#[47]⟩ (by decide) 0 _ s rfl]
theorem rlevels_l0 (s : ByteArray) (hs : s.size ≤ 1000000) : ∀ r a k : Nat, ∀ out : List ByteArray, ∀ part : List UInt8, a + r = s.size → out.length ≤ a → part.length ≤ a → r < k → switchboardref10_Levels.l0 k s out (toB part) (a : Int) = some (out ++ (splitP part (s.data.toList.drop a)).map toB) := by
  intro r
  induction r with
  | zero =>
    intro a k out part ha ho hp hk
    obtain ⟨k, rfl⟩ : ∃ j, k = j + 1 := ⟨k - 1, by omega⟩
    simp only [switchboardref10_Levels.l0]
    rw [if_neg (by omega), if_pos (by omega), List.drop_eq_nil_of_le (by rw [← Lib.size_eq]; omega)]
    simp [splitP]
  | succ r ih =>
    intro a k out part ha ho hp hk
    obtain ⟨k, rfl⟩ : ∃ j, k = j + 1 := ⟨k - 1, by omega⟩
    have e1 : wrap64 ((a : Int) + 1) = ((a + 1 : Nat) : Int) := by rw [w64 (by omega) (by omega)]; push_cast; rfl
    have hb := bt_nat s a (by omega)
    have hlt : a < s.data.toList.length := by rw [← Lib.size_eq]; omega
    have hba := byteAt_of (s := s) (k := a) (by omega)
    have hd : s.data.toList[a]'hlt = s[a]'(by omega) := by
      have := Lib.data_getElem? s a (by omega)
      rw [List.getElem?_eq_getElem hlt] at this
      exact Option.some.inj this
    simp only [switchboardref10_Levels.l0, e1, hb]
    rw [if_pos (by omega), if_pos (by omega), List.drop_eq_getElem_cons hlt, splitP]
    by_cases h47 : byteAt s a = 47
    · have hx : s.data.toList[a]'hlt = 47 := by rw [hd]; exact UInt8.toNat_inj.1 (by rw [← hba, h47]; rfl)
      rw [if_pos (by omega), if_pos (by omega), if_pos hx]
      have := ih (a + 1) k (out ++ [toB part]) [] (by omega) (by simp; omega) (by simp) (by omega)
      rw [show (⟨#[]⟩ : ByteArray) = toB [] from rfl, this]
      simp
    · have hx : ¬ s.data.toList[a]'hlt = 47 := fun e => h47 (by rw [hba, ← hd, e]; rfl)
      have hz : (s.extract a (a + 1)).size = 1 := by rw [ByteArray.size_extract]; omega
      have hps : (toB part).size = part.length := by rw [Lib.size_eq]; simp [toB]
      rw [if_neg (by omega), if_pos (by omega), if_pos (by omega), Int.toNat_natCast, Int.toNat_natCast, if_pos (by rw [hz, hps]; omega), if_neg hx]
      have ee : toB part ++ s.extract a (a + 1) = toB (part ++ [s.data.toList[a]'hlt]) := string_eq_of (by
        rw [ByteArray.data_append]
        simp only [toB, Array.toList_append, Lib.extract_eq]
        congr 1
        rw [show a + 1 - a = 1 by omega, List.drop_eq_getElem_cons hlt]
        rfl)
      rw [ee]
      exact ih (a + 1) k out (part ++ [s.data.toList[a]'hlt]) (by omega) (by omega) (by simp; omega) (by omega)
theorem rlevels_f (s : ByteArray) (hs : s.size ≤ 1000000) (k : Nat) (hk : s.size < k) : switchboardref10_Levels.f k s = some (levelsOf s) := by
  have := rlevels_l0 s hs s.size 0 k [] [] (by omega) (Nat.le_refl _) (Nat.le_refl _) hk
  rw [List.nil_append, List.drop_zero] at this
  exact this
/-- The search's variable holds some number. -/
def HasM (w : World) : Prop := ∃ m, w.cell? ⟨0, 0, none⟩ = some (.int .i64 m)
theorem HasM.below {w w1 : World} (h : HasM w) {B : Nat} (hb : Below B w w1) (hB : 0 < B) : HasM w1 := by
  obtain ⟨m, hm⟩ := h
  exact ⟨m, (hb.cell (p := ⟨0, 0, none⟩) hB).trans hm⟩
theorem HasM.pos {w : World} (h : HasM w) : 0 < w.heap.size := by
  obtain ⟨m, hm⟩ := h
  exact World.block_lt_of_cell? w _ hm
theorem HasM.to {w w1 : World} (h : HasM w) (hb : Below w.heap.size w w1) : HasM w1 := h.below hb h.pos
def LevelsPost (w : World) (s : ByteArray) (e : Ending) (w' : World) : Prop :=
  ∃ A c, e = .returned (.slice A (levelsOf s).length c) ∧ Kd.R Kd.string 9 w' w.heap.size (fun _ => True) (.slice A (levelsOf s).length c) (levelsOf s) ∧ Below w.heap.size w w'
theorem count_small (s : ByteArray) : Lib.countB s ⟨#[47]⟩ ≤ s.size := Lib.countB_le ⟨#[47]⟩ (by decide) _ s (Nat.le_refl _)
theorem levels_calls (s : ByteArray) (w : World) (hm : HasM w) (hs : s.size < 4294967281) : Calls Tryd.prog 23 #[.string s] w (LevelsPost w s) := by
  obtain ⟨m, hm⟩ := hm
  have hfin : LevelsPost w s (.returned (.slice (some ⟨w.heap.size, 0, none⟩) (Lib.countB s ⟨#[47]⟩ + 1) (Lib.countB s ⟨#[47]⟩ + 1))) (w.alloc (.cells ((Lib.splitB ⟨#[47]⟩ 0 (Lib.countB s ⟨#[47]⟩) s).map Value.string).toArray 9)) := by
    rw [split_count, split_levels]
    refine ⟨_, _, rfl, ?_, (Below.refl _ _).alloc (Nat.le_refl _) _⟩
    have hc := count_small s
    have h := World.ownsRow_lit (base := w.heap.size) (e := 9) (size := 1) w ((levelsOf s).map Value.string).toArray (levelsOf s).length (Nat.le_refl _) (by rw [← split_count]; unfold maxLen; omega) (by simp)
    rw [List.toList_toArray] at h
    exact Kd.R_of_own (enc := Value.string) (h1 := fun _ => rfl) h (fun _ _ => trivial)
  have H := Lib.hid (Tryd.strings_Split s ⟨#[47]⟩ m w hs hm (by decide))
  have hfin := Lib.hid hfin
  clear hm
  go_enter Tryd.func23, Tryd.ntmps23
  go_wp2_with (go_at_call 48; refine H.out.mono ?_; rintro e w1 ⟨rfl, rfl⟩)
  go_ret
  exact hfin.out

/-- May one level stand in a filter: so many are behind it. -/
def levelOk (x : ByteArray) (behind : Nat) : Bool := (x.toList == [43]) || ((x.toList == [35]) && (behind == 0)) || !signsB x
def okL : List ByteArray → Bool
  | [] => true
  | x :: l => levelOk x l.length && okL l
structure FilterW (s : ByteArray) (b : Bool) : Prop where
  st : ∃ t, TextW s t ∧ b = (t && okL (levelsOf s))
theorem levels_piece (s : ByteArray) : ∀ x ∈ levelsOf s, x.size ≤ s.size := by
  have h : ∀ (l p : List UInt8) (x : List UInt8), x ∈ splitP p l → x.length ≤ p.length + l.length := by
    intro l
    induction l with
    | nil => intro p x hx; obtain rfl := List.mem_singleton.1 hx; simp
    | cons b l ih =>
      intro p x hx
      unfold splitP at hx
      by_cases hb : b = 47
      · rw [if_pos hb] at hx
        rcases List.mem_cons.1 hx with rfl | hx
        · simp
        · have := ih [] x hx; simp at this ⊢; omega
      · rw [if_neg hb] at hx
        have := ih _ x hx
        simp at this ⊢
        omega
  intro x hx
  obtain ⟨y, hy, rfl⟩ := List.mem_map.1 hx
  have := h _ _ y hy
  rw [Lib.size_eq (s := s)]
  simp only [toB, Lib.size_eq]
  simpa using this
set_option maxHeartbeats 4000000 in
set_option maxRecDepth 1000000 in
theorem filter_calls (s : ByteArray) (w : World) (hm : HasM w) (hs : s.size < 4294967281) : Calls Tryd.prog 17 #[.string s] w fun e w' => ∃ b, e = .returned (.bool b) ∧ FilterW s b ∧ Below w.heap.size w w' := by
  have HT := Lib.hid (fun W => text_calls s W)
  have HLv := Lib.hid (fun W hm => levels_calls s W hm hs)
  have HM := Lib.hid hm
  have HP := Lib.hid (levels_piece s)
  obtain ⟨L, hL⟩ : ∃ L, levelsOf s = L := ⟨_, rfl⟩
  have HLE := Lib.hid hL
  have hlen : L.length ≤ s.size + 1 := by rw [← hL, ← split_count]; have := count_small s; omega
  unfold LevelsPost at HLv
  rw [hL] at HLv HP
  have hlen2 : L.length < 4294967290 := by omega
  have HS := Lib.hid hs
  clear hm hL hlen hs
  go_enter Tryd.func17, Tryd.ntmps17
  go_wp2_with (first
    | (go_at_call 42; refine (HT.out _).mono ?_; rintro e w1 hp; obtain ⟨t, rfl, hT, hb⟩ := hp; have HTW := Lib.hid hT; have HB := Lib.hid hb; clear hT hb)
    | (go_at_call 23; refine (HLv.out _ (HM.out.to HB.out)).mono ?_; rintro e w2 hp; obtain ⟨A, c, rfl, hR, hb⟩ := hp; have HR := Lib.hid hR; have HB2 := Lib.hid (HB.out.trans (hb.mono HB.out.size)); clear hR hb))
  · obtain rfl : t = false := by
      have h : (!t) = true := by assumption
      cases t
      · rfl
      · cases h
    go_ret
    exact ⟨false, rfl, ⟨false, HTW.out, rfl⟩, HB.out⟩
  · obtain rfl : t = true := by
      have h : (!t) = false := by assumption
      cases t
      · cases h
      · rfl
    have HR2 := Lib.hid (Kd.R_reads' HR.out).2.2
    clear HR HB
    go_loopg [13] L.length (fun gh v wx => ∃ j : Nat, Hid (j + gh = L.length) ∧ v = .int .i64 j ∧ Hid (okL (L.drop j) = true → okL L = true) ∧ Hid (okL (L.drop j) = false → okL L = false) ∧ Hid (Below w2.heap.size w2 wx))
    case atStart => exact ⟨0, Lib.hid (Nat.zero_add _), rfl, Lib.hid (fun h => h), Lib.hid (fun h => h), Lib.hid (Below.refl _ _)⟩
    case round =>
      obtain ⟨j, hj, rfl, hT, hF, HB⟩ := hrel
      cases gk with
      | zero =>
        have hjn : ¬ j < L.length := by have := hj.out; omega
        have HO := Lib.hid (hT.out (by rw [List.drop_eq_nil_of_le (by omega)]; rfl))
        go_wp2
        go_ret
        exact ⟨true, rfl, ⟨true, HTW.out, by rw [HLE.out, HO.out]; rfl⟩, HB2.out.trans (HB.out.mono HB2.out.size)⟩
      | succ g1 =>
        have hjn : j < L.length := by have := hj.out; omega
        obtain ⟨ad, hA, hcell⟩ := Kd.at_string HR2.out (j : Int) (by omega) (by omega)
        cases hA
        have hcell := (HB.out.cell (World.block_lt_of_cell? w2 _ hcell)).trans hcell
        rw [Int.toNat_natCast] at hcell
        have hxe : rdOf ByteArray.empty L (j : Int) = L[j] := by
          unfold rdOf
          rw [Int.toNat_natCast, List.getD_eq_getElem?_getD, List.getElem?_eq_getElem hjn]
          rfl
        rw [hxe] at hcell
        have hd : L.drop j = L[j] :: L.drop (j + 1) := List.drop_eq_getElem_cons hjn
        have hxs : L[j].size ≤ s.size := HP.out _ (List.getElem_mem hjn)
        generalize L[j] = x at hcell hd hxs
        rw [hd] at hT hF
        have hbe : (L.drop (j + 1)).length = L.length - (j + 1) := List.length_drop
        have HC := Lib.hid (fun W => containsAny_any x W (by have := HS.out; omega))
        clear hd hxs hxe
        have hlast : ((L.drop (j + 1)).length == 0) = decide ((j : Int) = (L.length : Int) - 1) := by
          rw [hbe]
          by_cases h : j + 1 = L.length
          · rw [decide_eq_true (by omega), h]; simp
          · rw [decide_eq_false (by omega)]; exact beq_eq_false_iff_ne.2 (by omega)
        have hnext : (levelOk x (L.drop (j + 1)).length = true) → Hid (okL (L.drop (j + 1)) = true → okL L = true) ∧ Hid (okL (L.drop (j + 1)) = false → okL L = false) := fun h =>
          ⟨Lib.hid fun h2 => hT.out (by unfold okL; rw [h, h2]; rfl), Lib.hid fun h2 => hF.out (by unfold okL; rw [h, h2]; rfl)⟩
        have hend : (levelOk x (L.drop (j + 1)).length = false) → okL L = false := fun h => hF.out (by unfold okL; rw [h]; rfl)
        have HNX := Lib.hid hnext
        have HED := Lib.hid hend
        have HLA := Lib.hid hlast
        clear hT hF hnext hend hlast hbe
        by_cases h43 : x.toList = [43]
        · have b0 : (x.toList == ([43] : List UInt8)) = true := beq_iff_eq.2 h43
          have HOK := Lib.hid (HNX.out (by unfold levelOk; rw [b0]; rfl))
          clear h43
          go_wp2
          go_roundg g1
          case measure => omega
          case rel => exact ⟨j + 1, Lib.hid (by have := hj.out; omega), by simp, HOK.out.1, HOK.out.2, HB⟩
        · have b0 : (x.toList == ([43] : List UInt8)) = false := beq_eq_false_iff_ne.2 h43
          clear h43
          by_cases h35 : x.toList = [35] ∧ j + 1 = L.length
          · have b1 : (x.toList == ([35] : List UInt8)) = true := beq_iff_eq.2 h35.1
            have hj2 : ((j : Int) == (L.length : Int) - 1) = true := beq_iff_eq.2 (by omega)
            have HOK := Lib.hid (HNX.out (by unfold levelOk; rw [b1, HLA.out, decide_eq_true (by omega)]; simp))
            clear h35
            go_wp2
            go_roundg g1
            case measure => omega
            case rel => exact ⟨j + 1, Lib.hid (by have := hj.out; omega), by simp, HOK.out.1, HOK.out.2, HB⟩
          · have hlo : levelOk x (L.drop (j + 1)).length = !signsB x := by
              unfold levelOk
              rw [b0, HLA.out]
              by_cases h1 : x.toList = [35]
              · rw [decide_eq_false (by have hne : ¬ j + 1 = L.length := (fun h => h35 ⟨h1, h⟩); omega)]; simp
              · rw [beq_eq_false_iff_ne.2 h1]; simp
            have HLO := Lib.hid hlo
            clear hlo
            have hnext : (!signsB x) = true → Hid (okL (L.drop (j + 1)) = true → okL L = true) ∧ Hid (okL (L.drop (j + 1)) = false → okL L = false) := fun h => HNX.out (HLO.out.trans h)
            have hend : (!signsB x) = false → okL L = false := fun h => HED.out (HLO.out.trans h)
            have HNX2 := Lib.hid hnext
            have HED2 := Lib.hid hend
            clear hnext hend HNX HED HLO HLA
            obtain ⟨sx, hsx⟩ : ∃ sx, signsB x = sx := ⟨_, rfl⟩
            rw [hsx] at HC HNX2 HED2
            clear hsx
            by_cases h1 : x.toList = [35]
            · have b1 : (x.toList == ([35] : List UInt8)) = true := beq_iff_eq.2 h1
              have hj2 : ((j : Int) == (L.length : Int) - 1) = false := beq_eq_false_iff_ne.2 (by have hne : ¬ j + 1 = L.length := (fun h => h35 ⟨h1, h⟩); omega)
              clear h1 h35
              cases sx
              · have HOK := Lib.hid (HNX2.out rfl)
                go_wp2_with (first
                  | (go_at_call 43; refine (HC.out _).mono ?_; rintro e w5 ⟨rfl, hb5⟩; have HB5 := Lib.hid (HB.out.trans (hb5.mono HB.out.size)); clear hb5))
                go_roundg g1
                case measure => omega
                case rel => exact ⟨j + 1, Lib.hid (by have := hj.out; omega), by simp, HOK.out.1, HOK.out.2, HB5⟩
              · have HOK := Lib.hid (HED2.out rfl)
                go_wp2_with (first
                  | (go_at_call 43; refine (HC.out _).mono ?_; rintro e w5 ⟨rfl, hb5⟩; have HB5 := Lib.hid (HB.out.trans (hb5.mono HB.out.size)); clear hb5))
                go_ret
                exact ⟨false, rfl, ⟨true, HTW.out, by rw [HLE.out, HOK.out]; rfl⟩, HB2.out.trans (HB5.out.mono HB2.out.size)⟩
            · have b1 : (x.toList == ([35] : List UInt8)) = false := beq_eq_false_iff_ne.2 h1
              clear h1 h35
              cases sx
              · have HOK := Lib.hid (HNX2.out rfl)
                go_wp2_with (first
                  | (go_at_call 43; refine (HC.out _).mono ?_; rintro e w5 ⟨rfl, hb5⟩; have HB5 := Lib.hid (HB.out.trans (hb5.mono HB.out.size)); clear hb5))
                go_roundg g1
                case measure => omega
                case rel => exact ⟨j + 1, Lib.hid (by have := hj.out; omega), by simp, HOK.out.1, HOK.out.2, HB5⟩
              · have HOK := Lib.hid (HED2.out rfl)
                go_wp2_with (first
                  | (go_at_call 43; refine (HC.out _).mono ?_; rintro e w5 ⟨rfl, hb5⟩; have HB5 := Lib.hid (HB.out.trans (hb5.mono HB.out.size)); clear hb5))
                go_ret
                exact ⟨false, rfl, ⟨true, HTW.out, by rw [HLE.out, HOK.out]; rfl⟩, HB2.out.trans (HB5.out.mono HB2.out.size)⟩
theorem signs_f (s : ByteArray) (hs : s.size ≤ 1000000) (k : Nat) (hk : s.size < k) : switchboardref10_signs.f k s = some (signsB s) :=
  signs_l0 s hs s.size 0 k (by omega) (by omega) (Lib.NoAny.zero _ _)
theorem text_f {s : ByteArray} {t : Bool} (h : TextW s t) (hs : s.size ≤ 65535) (k : Nat) (hk : 2 * s.size + 30 ≤ k) : switchboardref10_text.f k s = some t := by
  obtain ⟨g, hg, _, ht⟩ := h.st
  unfold switchboardref10_text.f
  by_cases h0 : 0 < s.size
  · have hne : ¬ s.toList = [] := by
      intro e
      have := isEmpty_of s h0
      rw [e] at this
      exact absurd this (by decide)
    have hl := rlevels_f s (by omega) k (by omega)
    rw [if_neg hne, good_f (hg hs) hs k hk]
    rw [decide_eq_true h0, Bool.true_and] at ht
    cases g with
    | false =>
      simp only [Option.bind_some]
      rw [ht]
      rfl
    | true =>
      simp only [Option.bind_some, if_true, hl]
      rw [Bool.true_and] at ht
      have e : decide (((levelsOf s).length : Int) ≤ 32) = t := by rw [ht, levelsOf_length]; exact decide_eq_decide.2 (by omega)
      rw [e]
  · have he : s.toList = [] := List.isEmpty_iff.1 (isEmpty_nil s (by omega))
    rw [if_pos he]
    rw [decide_eq_false h0] at ht
    rw [ht]
    rfl
theorem rdOf_at (L : List ByteArray) (j : Nat) (h : j < L.length) : rdOf ByteArray.empty L (j : Int) = L[j] := by
  unfold rdOf
  rw [Int.toNat_natCast, List.getD_eq_getElem?_getD, List.getElem?_eq_getElem h]
  rfl
theorem filter_l0 (s : ByteArray) (t : Bool) (hs : s.size ≤ 65535) (ht : TextW s t) (L : List ByteArray) (hL : ∀ x ∈ L, x.size ≤ 65535) (hn : L.length ≤ 65536) : ∀ r j k : Nat, j + r = L.length → 2 * s.size + 65600 + r ≤ k →
    switchboardref10_Filter.l0 k s L L (L.length : Int) (j : Int) = some (t && okL (L.drop j))
  | 0, j, k, hj, hk => by
    obtain ⟨k, rfl⟩ : ∃ q, k = q + 1 := ⟨k - 1, by omega⟩
    simp only [switchboardref10_Filter.l0]
    rw [if_neg (by omega), text_f ht hs k (by omega), List.drop_eq_nil_of_le (by omega)]
    simp [okL]
  | r + 1, j, k, hj, hk => by
    obtain ⟨k, rfl⟩ : ∃ q, k = q + 1 := ⟨k - 1, by omega⟩
    have hlt : j < L.length := by omega
    have hx := hL L[j] (List.getElem_mem hlt)
    have e1 : wrap64 ((j : Int) + 1) = ((j + 1 : Nat) : Int) := by rw [w64 (by omega) (by omega)]; push_cast; rfl
    have e2 : wrap64 ((L.length : Int) - 1) = (L.length : Int) - 1 := w64 (by omega) (by omega)
    have ih := filter_l0 s t hs ht L hL hn r (j + 1) k (by omega) (by omega)
    simp only [switchboardref10_Filter.l0, rdOf_at L j hlt, e1, e2]
    rw [if_pos (by omega), if_pos (by omega), if_pos (by omega), signs_f L[j] (by omega) k (by omega), List.drop_eq_getElem_cons hlt]
    simp only [Option.bind_some, ih, okL, List.length_drop]
    generalize L[j] = x at hx
    unfold levelOk
    cases hsg : signsB x with
    | false => simp
    | true =>
      rw [if_pos rfl]
      by_cases h43 : x.toList = [43]
      · rw [if_pos h43, beq_iff_eq.2 h43]
        simp
      · rw [if_neg h43, beq_eq_false_iff_ne.2 h43]
        by_cases h35 : x.toList = [35]
        · rw [if_pos h35, beq_iff_eq.2 h35]
          by_cases hl : j + 1 = L.length
          · rw [if_neg (by omega), show L.length - (j + 1) = 0 by omega]
            simp
          · rw [if_pos (by omega), show ((L.length - (j + 1)) == 0) = false from beq_eq_false_iff_ne.2 (by omega)]
            simp
        · rw [if_neg h35, beq_eq_false_iff_ne.2 h35]
          simp
theorem filter_f {s : ByteArray} {b : Bool} (h : FilterW s b) (hs : s.size ≤ 65535) (k : Nat) (hk : 3 * s.size + 65700 ≤ k) : switchboardref10_Filter.f k s = some b := by
  obtain ⟨t, ht, rfl⟩ := h.st
  have hlen := levelsOf_length s
  have hc : Lib.countByte s.data.toList 47 ≤ s.size := by rw [Lib.size_eq]; exact List.count_le_length
  unfold switchboardref10_Filter.f
  rw [rlevels_f s (by omega) k (by omega)]
  simp only [Option.bind_some]
  have := filter_l0 s t hs ht (levelsOf s) (fun x hx => by have := levels_piece s x hx; omega) (by omega) (levelsOf s).length 0 k (by omega) (by omega)
  rw [List.drop_zero] at this
  exact this
/-- Do levels of a name meet those of a filter. -/
def meetsL : List ByteArray → List ByteArray → Bool
  | [], n => n.isEmpty
  | x :: f, n => if x.toList = [35] ∧ f = [] then true else
    match n with
    | [] => false
    | y :: n => if x.toList = [43] ∨ x.toList = y.toList then meetsL f n else false
/-- Begins a name with a $. -/
def hidB (s : ByteArray) : Bool := if 1 ≤ s.size then ((s.extract 0 1).toList == (⟨#[36]⟩ : ByteArray).toList) else false
theorem hidden_f (s : ByteArray) : topic_Hidden.f s = some (hidB s) := by
  unfold topic_Hidden.f strings_HasPrefix.f stringslite_HasPrefix.f hidB
  have e : ((⟨#[36]⟩ : ByteArray).size : Int) = 1 := rfl
  rw [e]
  by_cases h : 1 ≤ s.size
  · rw [if_pos (by omega), if_pos (by omega), if_pos (by omega), if_pos h]; rfl
  · rw [if_neg (by omega), if_neg h]; rfl
/-- May the first level meet a hidden name. -/
def signFirst : List ByteArray → Bool
  | [] => false
  | x :: _ => (x.toList == [43]) || (x.toList == [35])
def matchB (f n : ByteArray) : Bool := if hidB n && signFirst (levelsOf f) then false else meetsL (levelsOf f) (levelsOf n)
theorem levelsOf_ne (s : ByteArray) : 0 < (levelsOf s).length := by rw [levelsOf_length]; omega
set_option maxHeartbeats 4000000 in
set_option maxRecDepth 1000000 in
theorem match_calls (f n : ByteArray) (w : World) (hm : HasM w) (hf : f.size ≤ 1000000) (hn : n.size ≤ 1000000) : Calls Tryd.prog 28 #[.string f, .string n] w fun e w' => e = .returned (.bool (matchB f n)) ∧ Below w.heap.size w w' := by
  have HL1 := Lib.hid (levels_calls f w hm (by omega))
  have HL2 := Lib.hid (fun W hm => levels_calls n W hm (by omega))
  have HM := Lib.hid hm
  obtain ⟨Lf, hLf⟩ : ∃ L, levelsOf f = L := ⟨_, rfl⟩
  obtain ⟨Ln, hLn⟩ : ∃ L, levelsOf n = L := ⟨_, rfl⟩
  obtain ⟨hd, hhd⟩ : ∃ b, hidB n = b := ⟨_, rfl⟩
  have hlf : Lf.length ≤ 1000001 := by rw [← hLf, ← split_count]; have := count_small f; omega
  have hln : Ln.length ≤ 1000001 := by rw [← hLn, ← split_count]; have := count_small n; omega
  have hlf0 : 0 < Lf.length := by rw [← hLf]; exact levelsOf_ne f
  have HH := Lib.hid (hidden_f n)
  rw [hhd] at HH
  have HMB := Lib.hid (show matchB f n = if hd && signFirst Lf then false else meetsL Lf Ln by unfold matchB; rw [hLf, hLn, hhd])
  unfold LevelsPost at HL1 HL2
  rw [hLf] at HL1
  rw [hLn] at HL2
  generalize matchB f n = mb at HMB ⊢
  clear hm hhd hLf hLn hf hn
  have hsf : signFirst Lf = ((Lf[0].toList == ([43] : List UInt8)) || (Lf[0].toList == ([35] : List UInt8))) := by
    cases Lf with
    | nil => simp at hlf0
    | cons x l => rfl
  have HSF := Lib.hid hsf
  clear hsf
  go_enter Tryd.func28, Tryd.ntmps28
  go_upto_region 2 with (first
    | (go_at_call 23; refine HL1.out.mono ?_; rintro e w1 hp; obtain ⟨A1, c1, rfl, hR, hb⟩ := hp; have HR1 := Lib.hid hR; have HB := Lib.hid hb; clear hR hb HL1)
    | (go_at_call 23; refine (HL2.out _ (HM.out.to HB.out)).mono ?_; rintro e w2 hp; obtain ⟨A2, c2, rfl, hR, hb⟩ := hp; have HR2 := Lib.hid hR; have HB2 := Lib.hid (HB.out.trans (hb.mono HB.out.size)); have HR1' := Lib.hid (Kd.R_below HR1.out hb); clear hR hb HR1))
  have HC1 := Lib.hid (Kd.R_reads' HR1'.out).2.2
  have HC2 := Lib.hid (Kd.R_reads' HR2.out).2.2
  clear HR1' HR2 HB HL2
  cases hd with
  | false =>
    simp only [Bool.false_and, Bool.false_eq_true, if_false] at HMB
    go_upto_region 4 with (go_at_call 27; refine (topic_Hidden.calls n _ _ HH.out).mono ?_; rintro e w3 ⟨rfl, hdr⟩; have HB23 := Lib.hid hdr.below; have HB3 := Lib.hid (HB2.out.trans (hdr.below.mono HB2.out.size)); clear hdr)
    clear HH
    go_upto_region 5 with (fail)
    go_loopg [29] Lf.length (fun gh v wx => ∃ j : Nat, Hid (j + gh = Lf.length) ∧ Hid (j ≤ Ln.length) ∧ v = .int .i64 j ∧ Hid (mb = meetsL (Lf.drop j) (Ln.drop j)) ∧ Hid (Below w3.heap.size w3 wx))
    case atStart => exact ⟨0, Lib.hid (Nat.zero_add _), Lib.hid (Nat.zero_le _), rfl, HMB, Lib.hid (Below.refl _ _)⟩
    case round =>
      clear HMB
      obtain ⟨j, hj, hjn, rfl, HMB, HB⟩ := hrel
      cases gk with
      | zero =>
        have hjl : ¬ j < Lf.length := by have := hj.out; omega
        have hmb : mb = ((Lf.length : Int) == (Ln.length : Int)) := by
          rw [HMB.out, List.drop_eq_nil_of_le (by omega)]
          have h1 := hj.out
          have h2 := hjn.out
          cases hd : Ln.drop j with
          | nil =>
            have h3 := congrArg List.length hd
            simp only [List.length_drop, List.length_nil] at h3
            show true = _
            exact (beq_iff_eq.2 (by omega)).symm
          | cons a l =>
            have h3 := congrArg List.length hd
            simp only [List.length_drop, List.length_cons] at h3
            show false = _
            exact (beq_eq_false_iff_ne.2 (by omega)).symm
        have HMB2 := Lib.hid hmb
        clear hmb
        go_wp2
        go_ret
        exact ⟨by rw [HMB2.out]; rfl, HB3.out.trans (HB.out.mono HB3.out.size)⟩
      | succ g1 =>
        have hjl : j < Lf.length := by have := hj.out; omega
        obtain ⟨ad, hA, hcell⟩ := Kd.at_string HC1.out (j : Int) (by omega) (by omega)
        cases hA
        have hcell := ((HB23.out.trans (HB.out.mono HB23.out.size)).cell (World.block_lt_of_cell? w2 _ hcell)).trans hcell
        rw [Int.toNat_natCast, rdOf_at Lf j hjl] at hcell
        rw [List.drop_eq_getElem_cons hjl] at HMB
        have hlast : (Lf.drop (j + 1) = []) ↔ j + 1 = Lf.length := by rw [List.drop_eq_nil_iff]; omega
        have hlen1 : ((j : Int) == (Lf.length : Int) - 1) = decide (j + 1 = Lf.length) := by
          by_cases h : j + 1 = Lf.length
          · rw [decide_eq_true h]; exact beq_iff_eq.2 (by omega)
          · rw [decide_eq_false h]; exact beq_eq_false_iff_ne.2 (by omega)
        generalize Lf[j] = x at hcell HMB
        unfold meetsL at HMB
        by_cases h35 : x.toList = [35] ∧ j + 1 = Lf.length
        · have b35 : (x.toList == ([35] : List UInt8)) = true := beq_iff_eq.2 h35.1
          have hl2 : ((j : Int) == (Lf.length : Int) - 1) = true := by rw [hlen1, decide_eq_true h35.2]
          rw [if_pos ⟨h35.1, hlast.2 h35.2⟩] at HMB
          clear h35 hlast hlen1
          go_wp2
          go_ret
          exact ⟨by rw [HMB.out]; rfl, HB3.out.trans (HB.out.mono HB3.out.size)⟩
        · rw [if_neg (fun h => h35 ⟨h.1, hlast.1 h.2⟩)] at HMB
          have hcs : ((x.toList == ([35] : List UInt8)) = false) ∨ ((x.toList == ([35] : List UInt8)) = true ∧ ((j : Int) == (Lf.length : Int) - 1) = false) := by
            by_cases h1 : x.toList = [35]
            · exact .inr ⟨beq_iff_eq.2 h1, by rw [hlen1]; exact decide_eq_false (fun h => h35 ⟨h1, h⟩)⟩
            · exact .inl (beq_eq_false_iff_ne.2 h1)
          clear h35 hlast hlen1
          by_cases hjn2 : j < Ln.length
          · obtain ⟨ad2, hA2, hcell2⟩ := Kd.at_string HC2.out (j : Int) (by omega) (by omega)
            cases hA2
            have hcell2 := ((HB23.out.trans (HB.out.mono HB23.out.size)).cell (World.block_lt_of_cell? w2 _ hcell2)).trans hcell2
            rw [Int.toNat_natCast, rdOf_at Ln j hjn2] at hcell2
            rw [List.drop_eq_getElem_cons hjn2] at HMB
            generalize Ln[j] = y at hcell2 HMB
            simp only at HMB
            by_cases h43 : x.toList = [43]
            · have b43 : (x.toList == ([43] : List UInt8)) = true := beq_iff_eq.2 h43
              have hjn3 : ¬ Ln.length ≤ j := by omega
              rw [if_pos (.inl h43)] at HMB
              clear h43
              rcases hcs with b35 | ⟨b35, hl2⟩
              all_goals
                go_wp2
                go_roundg g1
                case measure => omega
                case rel => exact ⟨j + 1, Lib.hid (by have := hj.out; omega), Lib.hid (by omega), by simp, HMB, HB⟩
            · have b43 : (x.toList == ([43] : List UInt8)) = false := beq_eq_false_iff_ne.2 h43
              have hjn3 : ¬ Ln.length ≤ j := by omega
              by_cases hxy : x.toList = y.toList
              · have bxy : (x.toList == y.toList) = true := beq_iff_eq.2 hxy
                rw [if_pos (.inr hxy)] at HMB
                clear h43 hxy
                rcases hcs with b35 | ⟨b35, hl2⟩
                all_goals
                  go_wp2
                  go_roundg g1
                  case measure => omega
                  case rel => exact ⟨j + 1, Lib.hid (by have := hj.out; omega), Lib.hid (by omega), by simp, HMB, HB⟩
              · have bxy : (x.toList == y.toList) = false := beq_eq_false_iff_ne.2 hxy
                rw [if_neg (fun h => h.elim h43 hxy)] at HMB
                clear h43 hxy
                rcases hcs with b35 | ⟨b35, hl2⟩
                all_goals
                  go_wp2
                  go_ret
                  exact ⟨by rw [HMB.out]; rfl, HB3.out.trans (HB.out.mono HB3.out.size)⟩
          · rw [List.drop_eq_nil_of_le (by omega)] at HMB
            simp only at HMB
            have hjn3 : Ln.length ≤ j := by omega
            rcases hcs with b35 | ⟨b35, hl2⟩
            all_goals
              go_wp2
              go_ret
              exact ⟨by rw [HMB.out]; rfl, HB3.out.trans (HB.out.mono HB3.out.size)⟩
  | true =>
    obtain ⟨ad0, hA0, hx0⟩ := Kd.at_string HC1.out 0 (by omega) (by omega)
    cases hA0
    rw [show rdOf ByteArray.empty Lf 0 = Lf[0] from rdOf_at Lf 0 hlf0] at hx0
    simp only [Bool.true_and] at HMB
    rw [HSF.out] at HMB
    generalize Lf[0] = x0 at HMB hx0
    have hx0 : w2.cell? ad0 = some (.string x0) := by
      have h := hx0
      rw [show ad0.add (0 : Int).toNat = ad0 by unfold Addr.add; simp] at h
      exact h
    cases b43 : (x0.toList == ([43] : List UInt8)) with
    | true =>
      rw [b43] at HMB
      simp only [Bool.true_or, if_true] at HMB
      go_wp2_with (first | (go_at_call 27; refine (topic_Hidden.calls n _ _ HH.out).mono ?_; rintro e w3 ⟨rfl, hdr⟩; have HB23 := Lib.hid hdr.below; have HB3 := Lib.hid (HB2.out.trans (hdr.below.mono HB2.out.size)); have hx0 := (hdr.below.cell (World.block_lt_of_cell? w2 _ hx0)).trans hx0; clear hdr))
      go_ret
      exact ⟨by rw [HMB.out]; rfl, HB3.out⟩
    | false =>
      rw [b43, Bool.false_or] at HMB
      cases b35 : (x0.toList == ([35] : List UInt8)) with
      | true =>
        rw [b35] at HMB
        simp only [if_true] at HMB
        go_wp2_with (first | (go_at_call 27; refine (topic_Hidden.calls n _ _ HH.out).mono ?_; rintro e w3 ⟨rfl, hdr⟩; have HB23 := Lib.hid hdr.below; have HB3 := Lib.hid (HB2.out.trans (hdr.below.mono HB2.out.size)); have hx0 := (hdr.below.cell (World.block_lt_of_cell? w2 _ hx0)).trans hx0; clear hdr))
        go_ret
        exact ⟨by rw [HMB.out]; rfl, HB3.out⟩
      | false =>
        rw [b35] at HMB
        simp only [Bool.false_eq_true, if_false] at HMB
        go_upto_region 4 with (go_at_call 27; refine (topic_Hidden.calls n _ _ HH.out).mono ?_; rintro e w3 ⟨rfl, hdr⟩; have HB23 := Lib.hid hdr.below; have HB3 := Lib.hid (HB2.out.trans (hdr.below.mono HB2.out.size)); have hx0 := (hdr.below.cell (World.block_lt_of_cell? w2 _ hx0)).trans hx0; clear hdr)
        clear hx0 b43 b35
        clear HH
        go_upto_region 5 with (fail)
        go_loopg [29] Lf.length (fun gh v wx => ∃ j : Nat, Hid (j + gh = Lf.length) ∧ Hid (j ≤ Ln.length) ∧ v = .int .i64 j ∧ Hid (mb = meetsL (Lf.drop j) (Ln.drop j)) ∧ Hid (Below w3.heap.size w3 wx))
        case atStart => exact ⟨0, Lib.hid (Nat.zero_add _), Lib.hid (Nat.zero_le _), rfl, HMB, Lib.hid (Below.refl _ _)⟩
        case round =>
          clear HMB
          obtain ⟨j, hj, hjn, rfl, HMB, HB⟩ := hrel
          cases gk with
          | zero =>
            have hjl : ¬ j < Lf.length := by have := hj.out; omega
            have hmb : mb = ((Lf.length : Int) == (Ln.length : Int)) := by
              rw [HMB.out, List.drop_eq_nil_of_le (by omega)]
              have h1 := hj.out
              have h2 := hjn.out
              cases hd : Ln.drop j with
              | nil =>
                have h3 := congrArg List.length hd
                simp only [List.length_drop, List.length_nil] at h3
                show true = _
                exact (beq_iff_eq.2 (by omega)).symm
              | cons a l =>
                have h3 := congrArg List.length hd
                simp only [List.length_drop, List.length_cons] at h3
                show false = _
                exact (beq_eq_false_iff_ne.2 (by omega)).symm
            have HMB2 := Lib.hid hmb
            clear hmb
            go_wp2
            go_ret
            exact ⟨by rw [HMB2.out]; rfl, HB3.out.trans (HB.out.mono HB3.out.size)⟩
          | succ g1 =>
            have hjl : j < Lf.length := by have := hj.out; omega
            obtain ⟨ad, hA, hcell⟩ := Kd.at_string HC1.out (j : Int) (by omega) (by omega)
            cases hA
            have hcell := ((HB23.out.trans (HB.out.mono HB23.out.size)).cell (World.block_lt_of_cell? w2 _ hcell)).trans hcell
            rw [Int.toNat_natCast, rdOf_at Lf j hjl] at hcell
            rw [List.drop_eq_getElem_cons hjl] at HMB
            have hlast : (Lf.drop (j + 1) = []) ↔ j + 1 = Lf.length := by rw [List.drop_eq_nil_iff]; omega
            have hlen1 : ((j : Int) == (Lf.length : Int) - 1) = decide (j + 1 = Lf.length) := by
              by_cases h : j + 1 = Lf.length
              · rw [decide_eq_true h]; exact beq_iff_eq.2 (by omega)
              · rw [decide_eq_false h]; exact beq_eq_false_iff_ne.2 (by omega)
            generalize Lf[j] = x at hcell HMB
            unfold meetsL at HMB
            by_cases h35 : x.toList = [35] ∧ j + 1 = Lf.length
            · have b35 : (x.toList == ([35] : List UInt8)) = true := beq_iff_eq.2 h35.1
              have hl2 : ((j : Int) == (Lf.length : Int) - 1) = true := by rw [hlen1, decide_eq_true h35.2]
              rw [if_pos ⟨h35.1, hlast.2 h35.2⟩] at HMB
              clear h35 hlast hlen1
              go_wp2
              go_ret
              exact ⟨by rw [HMB.out]; rfl, HB3.out.trans (HB.out.mono HB3.out.size)⟩
            · rw [if_neg (fun h => h35 ⟨h.1, hlast.1 h.2⟩)] at HMB
              have hcs : ((x.toList == ([35] : List UInt8)) = false) ∨ ((x.toList == ([35] : List UInt8)) = true ∧ ((j : Int) == (Lf.length : Int) - 1) = false) := by
                by_cases h1 : x.toList = [35]
                · exact .inr ⟨beq_iff_eq.2 h1, by rw [hlen1]; exact decide_eq_false (fun h => h35 ⟨h1, h⟩)⟩
                · exact .inl (beq_eq_false_iff_ne.2 h1)
              clear h35 hlast hlen1
              by_cases hjn2 : j < Ln.length
              · obtain ⟨ad2, hA2, hcell2⟩ := Kd.at_string HC2.out (j : Int) (by omega) (by omega)
                cases hA2
                have hcell2 := ((HB23.out.trans (HB.out.mono HB23.out.size)).cell (World.block_lt_of_cell? w2 _ hcell2)).trans hcell2
                rw [Int.toNat_natCast, rdOf_at Ln j hjn2] at hcell2
                rw [List.drop_eq_getElem_cons hjn2] at HMB
                generalize Ln[j] = y at hcell2 HMB
                simp only at HMB
                by_cases h43 : x.toList = [43]
                · have b43 : (x.toList == ([43] : List UInt8)) = true := beq_iff_eq.2 h43
                  have hjn3 : ¬ Ln.length ≤ j := by omega
                  rw [if_pos (.inl h43)] at HMB
                  clear h43
                  rcases hcs with b35 | ⟨b35, hl2⟩
                  all_goals
                    go_wp2
                    go_roundg g1
                    case measure => omega
                    case rel => exact ⟨j + 1, Lib.hid (by have := hj.out; omega), Lib.hid (by omega), by simp, HMB, HB⟩
                · have b43 : (x.toList == ([43] : List UInt8)) = false := beq_eq_false_iff_ne.2 h43
                  have hjn3 : ¬ Ln.length ≤ j := by omega
                  by_cases hxy : x.toList = y.toList
                  · have bxy : (x.toList == y.toList) = true := beq_iff_eq.2 hxy
                    rw [if_pos (.inr hxy)] at HMB
                    clear h43 hxy
                    rcases hcs with b35 | ⟨b35, hl2⟩
                    all_goals
                      go_wp2
                      go_roundg g1
                      case measure => omega
                      case rel => exact ⟨j + 1, Lib.hid (by have := hj.out; omega), Lib.hid (by omega), by simp, HMB, HB⟩
                  · have bxy : (x.toList == y.toList) = false := beq_eq_false_iff_ne.2 hxy
                    rw [if_neg (fun h => h.elim h43 hxy)] at HMB
                    clear h43 hxy
                    rcases hcs with b35 | ⟨b35, hl2⟩
                    all_goals
                      go_wp2
                      go_ret
                      exact ⟨by rw [HMB.out]; rfl, HB3.out.trans (HB.out.mono HB3.out.size)⟩
              · rw [List.drop_eq_nil_of_le (by omega)] at HMB
                simp only at HMB
                have hjn3 : Ln.length ≤ j := by omega
                rcases hcs with b35 | ⟨b35, hl2⟩
                all_goals
                  go_wp2
                  go_ret
                  exact ⟨by rw [HMB.out]; rfl, HB3.out.trans (HB.out.mono HB3.out.size)⟩
theorem meets_l0 (F N : List ByteArray) (hF : F.length ≤ 1000000) (hN : N.length ≤ 1000000) : ∀ r j k : Nat, j + r = F.length → j ≤ N.length → 2 * r + 2 ≤ k → switchboardref10_meets.l0 k F N (j : Int) = some (meetsL (F.drop j) (N.drop j))
  | 0, j, k, hj, hjn, hk => by
    obtain ⟨k, rfl⟩ : ∃ q, k = q + 1 := ⟨k - 1, by omega⟩
    simp only [switchboardref10_meets.l0]
    rw [if_neg (by omega), List.drop_eq_nil_of_le (by omega)]
    congr 1
    cases hd : N.drop j with
    | nil =>
      have h3 := congrArg List.length hd
      simp only [List.length_drop, List.length_nil] at h3
      exact beq_iff_eq.2 (by omega)
    | cons a l =>
      have h3 := congrArg List.length hd
      simp only [List.length_drop, List.length_cons] at h3
      exact beq_eq_false_iff_ne.2 (by omega)
  | r + 1, j, k, hj, hjn, hk => by
    obtain ⟨k, rfl⟩ : ∃ q, k = q + 2 := ⟨k - 2, by omega⟩
    have hlt : j < F.length := by omega
    have e1 : wrap64 ((j : Int) + 1) = ((j + 1 : Nat) : Int) := by rw [w64 (by omega) (by omega)]; push_cast; rfl
    have e2 : wrap64 ((F.length : Int) - 1) = (F.length : Int) - 1 := w64 (by omega) (by omega)
    have hlast : (F.drop (j + 1) = []) ↔ j + 1 = F.length := by rw [List.drop_eq_nil_iff]; omega
    have hj1 : ∀ bb : Bool, (bb = true ↔ F[j].toList = [35] ∧ j + 1 = F.length) → switchboardref10_meets.j1 (k + 1) F N (j : Int) bb = some (meetsL (F[j] :: F.drop (j + 1)) (N.drop j)) := by
      intro bb hbb
      cases bb with
      | true =>
        have h := hbb.1 rfl
        have hM : meetsL (F[j] :: F.drop (j + 1)) (N.drop j) = true := by unfold meetsL; rw [if_pos ⟨h.1, hlast.2 h.2⟩]
        simp only [switchboardref10_meets.j1]
        rw [if_pos trivial, hM]
      | false =>
        have h : ¬ (F[j].toList = [35] ∧ j + 1 = F.length) := fun h => by have := hbb.2 h; cases this
        simp only [switchboardref10_meets.j1]
        rw [if_neg (by decide)]
        by_cases hn : j < N.length
        · have ih := meets_l0 F N hF hN r (j + 1) k (by omega) (by omega) (by omega)
          have hM : meetsL (F[j] :: F.drop (j + 1)) (N.drop j) = if F[j].toList = [43] ∨ F[j].toList = N[j].toList then meetsL (F.drop (j + 1)) (N.drop (j + 1)) else false := by
            rw [List.drop_eq_getElem_cons hn, meetsL, if_neg (fun h2 => h ⟨h2.1, hlast.1 h2.2⟩)]
          rw [hM, if_neg (by omega), if_pos (by omega), if_pos (by omega), rdOf_at F j hlt, rdOf_at N j hn, e1, ih]
          by_cases h43 : F[j].toList = [43]
          · rw [if_pos h43, if_pos (.inl h43)]
          · rw [if_neg h43, if_pos (by omega)]
            by_cases hxy : F[j].toList = N[j].toList
            · rw [if_pos hxy, if_pos (.inr hxy)]
            · rw [if_neg hxy, if_neg (fun h => h.elim h43 hxy)]
        · have hM : meetsL (F[j] :: F.drop (j + 1)) (N.drop j) = false := by
            rw [show N.drop j = [] from List.drop_eq_nil_of_le (by omega), meetsL, if_neg (fun h2 => h ⟨h2.1, hlast.1 h2.2⟩)]
          rw [if_pos (by omega), hM]
    rw [switchboardref10_meets.l0, if_pos (by omega), if_pos (by omega), rdOf_at F j hlt, List.drop_eq_getElem_cons hlt, e2]
    by_cases h35 : F[j].toList = [35]
    · rw [if_pos h35]
      refine hj1 _ ⟨fun h => ⟨h35, ?_⟩, fun h => beq_iff_eq.2 (by omega)⟩
      have := beq_iff_eq.1 h
      omega
    · rw [if_neg h35]
      exact hj1 false ⟨fun h => (by cases h), fun h => absurd h.1 h35⟩
theorem take_one {l : List UInt8} (h : 0 < l.length) : (⟨(l.take 1).toArray⟩ : ByteArray).data.toList = [l[0]] := by
  cases l with
  | nil => simp at h
  | cons a l => simp
theorem signFirst_at {L : List ByteArray} (h : 0 < L.length) : signFirst L = ((L[0]).toList == ([43] : List UInt8) || (L[0]).toList == ([35] : List UInt8)) := by
  cases L with
  | nil => simp at h
  | cons x l => rfl
theorem hidB_at (s : ByteArray) : hidB s = if 0 < s.size then decide (byteAt s 0 = 36) else false := by
  unfold hidB
  by_cases h : 1 ≤ s.size
  · rw [if_pos h, if_pos (by omega)]
    have hlt : 0 < s.data.toList.length := by rw [← Lib.size_eq]; omega
    have e1 : (s.extract 0 1).toList = [s.data.toList[0]] := by
      rw [Lib.toList_data, Lib.extract_eq]
      rw [List.drop_zero, show 1 - 0 = 1 from rfl]
      exact take_one hlt
    have e2 : (⟨#[36]⟩ : ByteArray).toList = [36] := by rw [Lib.toList_data]
    have hd : s.data.toList[0] = s[0]'(by omega) := by
      have := Lib.data_getElem? s 0 (by omega)
      rw [List.getElem?_eq_getElem hlt] at this
      exact Option.some.inj this
    rw [e1, e2, hd, byteAt_of (s := s) (k := 0) (by omega)]
    by_cases hx : s[0]'(by omega) = 36
    · rw [hx]; rfl
    · rw [decide_eq_false (fun h2 => hx (UInt8.toNat_inj.1 (h2.trans rfl)))]
      exact beq_eq_false_iff_ne.2 (fun h2 => hx (by simpa using h2))
  · rw [if_neg h, if_neg (by omega)]
theorem match_f (f n : ByteArray) (hf : f.size ≤ 900000) (hn : n.size ≤ 900000) (k : Nat) (hk : 2 * f.size + n.size + 20 ≤ k) : switchboardref10_Match.f k f n = some (matchB f n) := by
  obtain ⟨k, rfl⟩ : ∃ q, k = q + 1 := ⟨k - 1, by omega⟩
  have hlf : (levelsOf f).length ≤ f.size + 1 := by rw [← split_count]; have := count_small f; omega
  have hln : (levelsOf n).length ≤ n.size + 1 := by rw [← split_count]; have := count_small n; omega
  have h0 := levelsOf_ne f
  have hj0 : ∀ bb : Bool, bb = (hidB n && signFirst (levelsOf f)) → switchboardref10_Match.j0 (k + 1) n (levelsOf f) bb = some (matchB f n) := by
    intro bb hbb
    simp only [switchboardref10_Match.j0]
    unfold matchB
    rw [← hbb]
    cases bb with
    | true => rfl
    | false =>
      rw [if_neg (by decide), if_neg (by decide), rlevels_f n (by omega) k (by omega)]
      simp only [Option.bind_some]
      have hm : switchboardref10_meets.f k (levelsOf f) (levelsOf n) 0 = some (meetsL (levelsOf f) (levelsOf n)) := by
        have := meets_l0 (levelsOf f) (levelsOf n) (by omega) (by omega) (levelsOf f).length 0 k (by omega) (by omega) (by omega)
        rw [List.drop_zero, List.drop_zero] at this
        exact this
      rw [hm]
      rfl
  have hsf : signFirst (levelsOf f) = (((levelsOf f)[0]).toList == ([43] : List UInt8) || ((levelsOf f)[0]).toList == ([35] : List UInt8)) := signFirst_at h0
  unfold switchboardref10_Match.f
  rw [rlevels_f f (by omega) (k + 1) (by omega)]
  simp only [Option.bind_some]
  by_cases hs : 0 < n.size
  · have hne : ¬ n.toList = [] := by
      intro e
      have := isEmpty_of n hs
      rw [e] at this
      exact absurd this (by decide)
    have hb := bt_nat n 0 hs
    rw [if_neg hne, if_pos (by omega), show bt n 0 = ((byteAt n 0 : Nat) : Int) from hb]
    have hh := hidB_at n
    rw [if_pos hs] at hh
    by_cases h36 : byteAt n 0 = 36
    · rw [decide_eq_true h36] at hh
      rw [if_pos (by omega), if_pos (by omega), show rdOf ByteArray.empty (levelsOf f) 0 = (levelsOf f)[0] from rdOf_at _ 0 h0]
      by_cases h43 : ((levelsOf f)[0]).toList = [43]
      · rw [if_pos h43]
        exact hj0 true (by rw [hh, hsf, beq_iff_eq.2 h43]; rfl)
      · rw [if_neg h43]
        exact hj0 _ (by rw [hh, hsf, beq_eq_false_iff_ne.2 h43, Bool.true_and, Bool.false_or])
    · rw [decide_eq_false h36] at hh
      rw [if_neg (by omega)]
      exact hj0 false (by rw [hh]; rfl)
  · have he : n.toList = [] := List.isEmpty_iff.1 (isEmpty_nil n (by omega))
    have hh := hidB_at n
    rw [if_neg hs] at hh
    rw [if_pos he]
    exact hj0 false (by rw [hh]; rfl)
theorem sign_total (s : ByteArray) : ∃ v n, SignW s v n := by
  by_cases h : 0 < s.size
  · by_cases h1 : byteAt s 0 < 128
    · exact ⟨_, _, .one h h1⟩
    · by_cases h2 : signN (byteAt s 0) = 0
      · exact ⟨_, _, .first h (by omega) h2⟩
      · by_cases h3 : s.size < signN (byteAt s 0)
        · exact ⟨_, _, .short _ h (by omega) rfl (by omega) h3⟩
        · by_cases h4 : contOk s (signN (byteAt s 0))
          · by_cases h5 : badV (signN (byteAt s 0)) (valW s (firstV (byteAt s 0) (signN (byteAt s 0))) (signN (byteAt s 0) - 1))
            · exact ⟨_, _, .bad _ h (by omega) rfl (by omega) (by omega) h4 h5⟩
            · exact ⟨_, _, .good _ h (by omega) rfl (by omega) (by omega) h4 h5⟩
          · unfold contOk at h4
            obtain ⟨k, hk⟩ := Classical.not_forall.1 h4
            have hk' : 1 ≤ k ∧ k < signN (byteAt s 0) ∧ byteAt s k / 64 ≠ 2 := by
              refine ⟨?_, ?_, ?_⟩
              · exact Classical.byContradiction fun h => hk (fun h1 => absurd h1 h)
              · exact Classical.byContradiction fun h => hk (fun _ h1 => absurd h1 h)
              · exact fun h => hk (fun _ _ => h)
            exact ⟨_, _, .cont _ k h (by omega) rfl (by omega) hk'.1 hk'.2.1 hk'.2.2⟩
  · exact ⟨_, _, .none (by omega)⟩
theorem good_total : ∀ (m : Nat) (s : ByteArray), s.size ≤ m → ∃ b, GoodW s b
  | 0, s, h => ⟨true, .nil s (by omega)⟩
  | m + 1, s, h => by
    by_cases h0 : 0 < s.size
    · obtain ⟨v, n, hS⟩ := sign_total s
      by_cases hb : n = 0 ∨ v = 0
      · exact ⟨false, .bad s v n h0 hS hb⟩
      · obtain ⟨b, hb2⟩ := good_total m (s.extract n s.size) (by rw [ByteArray.size_extract]; omega)
        exact ⟨b, .step s v n b h0 hS (fun h => hb (.inl h)) (fun h => hb (.inr h)) hb2⟩
    · exact ⟨true, .nil s (by omega)⟩
def goodB (s : ByteArray) : Bool := (switchboardref02_Good.f (2 * s.size + 30) s).getD false
theorem goodB_of {s : ByteArray} {b : Bool} (h : GoodW s b) (hs : s.size ≤ 65535) : b = goodB s := by
  unfold goodB
  rw [good_f h hs _ (Nat.le_refl _)]
  rfl
theorem goodB_W (s : ByteArray) (hs : s.size ≤ 65535) : GoodW s (goodB s) := by
  obtain ⟨b, hb⟩ := good_total s.size s (Nat.le_refl _)
  rwa [← goodB_of hb hs]
theorem good_fB (s : ByteArray) (hs : s.size ≤ 65535) (k : Nat) (hk : 2 * s.size + 30 ≤ k) : switchboardref02_Good.f k s = some (goodB s) := good_f (goodB_W s hs) hs k hk
def textB (s : ByteArray) : Bool := decide (0 < s.size) && goodB s && decide (Lib.countByte s.data.toList 47 < 32)
def nameB (s : ByteArray) : Bool := textB s && !signsB s
def filterB (s : ByteArray) : Bool := textB s && okL (levelsOf s)
theorem textB_W (s : ByteArray) (hs : s.size ≤ 65535) : TextW s (textB s) := ⟨goodB s, fun _ => goodB_W s hs, fun h => by omega, rfl⟩
theorem textB_of {s : ByteArray} {t : Bool} (h : TextW s t) (hs : s.size ≤ 65535) : t = textB s := by
  obtain ⟨g, h1, _, rfl⟩ := h.st
  unfold textB
  rw [goodB_of (h1 hs) hs]
theorem nameB_of {s : ByteArray} {b : Bool} (h : NameW s b) (hs : s.size ≤ 65535) : b = nameB s := by
  obtain ⟨t, ht, rfl⟩ := h.st
  unfold nameB
  rw [textB_of ht hs]
theorem filterB_of {s : ByteArray} {b : Bool} (h : FilterW s b) (hs : s.size ≤ 65535) : b = filterB s := by
  obtain ⟨t, ht, rfl⟩ := h.st
  unfold filterB
  rw [textB_of ht hs]
theorem name_fB (s : ByteArray) (hs : s.size ≤ 65535) (k : Nat) (hk : 2 * s.size + 30 ≤ k) : switchboardref10_Name.f k s = some (nameB s) := name_f ⟨textB s, textB_W s hs, rfl⟩ hs k hk
theorem filter_fB (s : ByteArray) (hs : s.size ≤ 65535) (k : Nat) (hk : 3 * s.size + 65700 ≤ k) : switchboardref10_Filter.f k s = some (filterB s) := filter_f ⟨textB s, textB_W s hs, rfl⟩ hs k hk
theorem good_callsB (s : ByteArray) (w : World) (hs : s.size ≤ 65535) : Calls Tryd.prog 40 #[.string s] w fun e w' => e = .returned (.bool (goodB s)) ∧ Below w.heap.size w w' := by
  refine (good_calls s w).mono ?_
  rintro e w' ⟨b, rfl, h1, _, hb⟩
  rw [goodB_of (h1 hs) hs]
  exact ⟨rfl, hb⟩
theorem name_callsB (s : ByteArray) (w : World) (hs : s.size ≤ 65535) : Calls Tryd.prog 16 #[.string s] w fun e w' => e = .returned (.bool (nameB s)) ∧ Below w.heap.size w w' := by
  refine (name_calls s w (by omega)).mono ?_
  rintro e w' ⟨b, rfl, h1, hb⟩
  rw [nameB_of h1 hs]
  exact ⟨rfl, hb⟩
theorem filter_callsB (s : ByteArray) (w : World) (hm : HasM w) (hs : s.size ≤ 65535) : Calls Tryd.prog 17 #[.string s] w fun e w' => e = .returned (.bool (filterB s)) ∧ Below w.heap.size w w' := by
  refine (filter_calls s w hm (by omega)).mono ?_
  rintro e w' ⟨b, rfl, h1, hb⟩
  rw [filterB_of h1 hs]
  exact ⟨rfl, hb⟩
end Go.Proofs.YtjlohmhmnghjkaaDoor

/- topic.Levels, topic.Filter. -/
import Derived.Test.YtjlohmhmnghjkaaDoorT1
namespace Go.Proofs.YtjlohmhmnghjkaaDoor
open Go.RowKit Go.Lib Go.Proofs.YtjlohmhmnghjkaaDoorW.PrintWords Go.Proofs.YtjlohmhmnghjkaaDoor.PTopicReads
set_option linter.unusedVariables false
set_option linter.unusedSimpArgs false

/-- The search's variable holds some number. -/
def HasM (w : World) : Prop := ∃ m, w.cell? ⟨0, 0, none⟩ = some (.int .i64 m)
theorem HasM.below {w w1 : World} (h : HasM w) {B : Nat} (hb : Below B w w1) (hB : 0 < B) : HasM w1 := by
  obtain ⟨m, hm⟩ := h
  exact ⟨m, (hb.cell (p := ⟨0, 0, none⟩) hB).trans hm⟩
theorem HasM.pos {w : World} (h : HasM w) : 0 < w.heap.size := by
  obtain ⟨m, hm⟩ := h
  exact World.block_lt_of_cell? w _ hm
theorem HasM.to {w w1 : World} (h : HasM w) (hb : Below w.heap.size w w1) : HasM w1 := h.below hb h.pos
def LevelsPost (w : World) (s : ByteArray) (e : Ending) (w' : World) : Prop :=
  ∃ A c, e = .returned (.slice A (levelsOf s).length c) ∧ Kd.R Kd.string 9 w' w.heap.size (fun _ => True) (.slice A (levelsOf s).length c) (levelsOf s) ∧ Below w.heap.size w w'
theorem count_small (s : ByteArray) : Lib.countB s ⟨#[47]⟩ ≤ s.size := Lib.countB_le ⟨#[47]⟩ (by decide) _ s (Nat.le_refl _)
theorem levels_calls (s : ByteArray) (w : World) (hm : HasM w) (hs : s.size < 4294967281) : Calls Tryd.prog 23 #[.string s] w (LevelsPost w s) := by
  obtain ⟨m, hm⟩ := hm
  have hfin : LevelsPost w s (.returned (.slice (some ⟨w.heap.size, 0, none⟩) (Lib.countB s ⟨#[47]⟩ + 1) (Lib.countB s ⟨#[47]⟩ + 1))) (w.alloc (.cells ((Lib.splitB ⟨#[47]⟩ 0 (Lib.countB s ⟨#[47]⟩) s).map Value.string).toArray 9)) := by
    rw [split_count, split_levels]
    refine ⟨_, _, rfl, ?_, (Below.refl _ _).alloc (Nat.le_refl _) _⟩
    have hc := count_small s
    have h := World.ownsRow_lit (base := w.heap.size) (e := 9) (size := 1) w ((levelsOf s).map Value.string).toArray (levelsOf s).length (Nat.le_refl _) (by rw [← split_count]; unfold maxLen; omega) (by simp)
    rw [List.toList_toArray] at h
    exact Kd.R_of_own (enc := Value.string) (h1 := fun _ => rfl) h (fun _ _ => trivial)
  have H := Lib.hid (Tryd.strings_Split s ⟨#[47]⟩ m w hs hm (by decide))
  have hfin := Lib.hid hfin
  clear hm
  go_enter Tryd.func23, Tryd.ntmps23
  go_wp2_with (go_at_call 48; refine H.out.mono ?_; rintro e w1 ⟨rfl, rfl⟩)
  go_ret
  exact hfin.out

/-- May one level stand in a filter: so many are behind it. -/
def levelOk (x : ByteArray) (behind : Nat) : Bool := (x.toList == [43]) || ((x.toList == [35]) && (behind == 0)) || !signsB x
def okL : List ByteArray → Bool
  | [] => true
  | x :: l => levelOk x l.length && okL l
structure FilterW (s : ByteArray) (b : Bool) : Prop where
  st : ∃ t, TextW s t ∧ b = (t && okL (levelsOf s))
theorem levels_piece (s : ByteArray) : ∀ x ∈ levelsOf s, x.size ≤ s.size := by
  have h : ∀ (l p : List UInt8) (x : List UInt8), x ∈ splitP p l → x.length ≤ p.length + l.length := by
    intro l
    induction l with
    | nil => intro p x hx; obtain rfl := List.mem_singleton.1 hx; simp
    | cons b l ih =>
      intro p x hx
      unfold splitP at hx
      by_cases hb : b = 47
      · rw [if_pos hb] at hx
        rcases List.mem_cons.1 hx with rfl | hx
        · simp
        · have := ih [] x hx; simp at this ⊢; omega
      · rw [if_neg hb] at hx
        have := ih _ x hx
        simp at this ⊢
        omega
  intro x hx
  obtain ⟨y, hy, rfl⟩ := List.mem_map.1 hx
  have := h _ _ y hy
  rw [Lib.size_eq (s := s)]
  simp only [toB, Lib.size_eq]
  simpa using this
set_option maxHeartbeats 4000000 in
set_option maxRecDepth 1000000 in
theorem filter_calls (s : ByteArray) (w : World) (hm : HasM w) (hs : s.size < 4294967281) : Calls Tryd.prog 17 #[.string s] w fun e w' => ∃ b, e = .returned (.bool b) ∧ FilterW s b ∧ Below w.heap.size w w' := by
  have HT := Lib.hid (fun W => text_calls s W)
  have HLv := Lib.hid (fun W hm => levels_calls s W hm hs)
  have HM := Lib.hid hm
  have HP := Lib.hid (levels_piece s)
  obtain ⟨L, hL⟩ : ∃ L, levelsOf s = L := ⟨_, rfl⟩
  have HLE := Lib.hid hL
  have hlen : L.length ≤ s.size + 1 := by rw [← hL, ← split_count]; have := count_small s; omega
  unfold LevelsPost at HLv
  rw [hL] at HLv HP
  have hlen2 : L.length < 4294967290 := by omega
  have HS := Lib.hid hs
  clear hm hL hlen hs
  go_enter Tryd.func17, Tryd.ntmps17
  go_wp2_with (first
    | (go_at_call 42; refine (HT.out _).mono ?_; rintro e w1 hp; obtain ⟨t, rfl, hT, hb⟩ := hp; have HTW := Lib.hid hT; have HB := Lib.hid hb; clear hT hb)
    | (go_at_call 23; refine (HLv.out _ (HM.out.to HB.out)).mono ?_; rintro e w2 hp; obtain ⟨A, c, rfl, hR, hb⟩ := hp; have HR := Lib.hid hR; have HB2 := Lib.hid (HB.out.trans (hb.mono HB.out.size)); clear hR hb))
  · obtain rfl : t = false := by
      have h : (!t) = true := by assumption
      cases t
      · rfl
      · cases h
    go_ret
    exact ⟨false, rfl, ⟨false, HTW.out, rfl⟩, HB.out⟩
  · obtain rfl : t = true := by
      have h : (!t) = false := by assumption
      cases t
      · cases h
      · rfl
    have HR2 := Lib.hid (Kd.R_reads' HR.out).2.2
    clear HR HB
    go_loopg [13] L.length (fun gh v wx => ∃ j : Nat, Hid (j + gh = L.length) ∧ v = .int .i64 j ∧ Hid (okL (L.drop j) = true → okL L = true) ∧ Hid (okL (L.drop j) = false → okL L = false) ∧ Hid (Below w2.heap.size w2 wx))
    case atStart => exact ⟨0, Lib.hid (Nat.zero_add _), rfl, Lib.hid (fun h => h), Lib.hid (fun h => h), Lib.hid (Below.refl _ _)⟩
    case round =>
      obtain ⟨j, hj, rfl, hT, hF, HB⟩ := hrel
      cases gk with
      | zero =>
        have hjn : ¬ j < L.length := by have := hj.out; omega
        have HO := Lib.hid (hT.out (by rw [List.drop_eq_nil_of_le (by omega)]; rfl))
        go_wp2
        go_ret
        exact ⟨true, rfl, ⟨true, HTW.out, by rw [HLE.out, HO.out]; rfl⟩, HB2.out.trans (HB.out.mono HB2.out.size)⟩
      | succ g1 =>
        have hjn : j < L.length := by have := hj.out; omega
        obtain ⟨ad, hA, hcell⟩ := Kd.at_string HR2.out (j : Int) (by omega) (by omega)
        cases hA
        have hcell := (HB.out.cell (World.block_lt_of_cell? w2 _ hcell)).trans hcell
        rw [Int.toNat_natCast] at hcell
        have hxe : rdOf ByteArray.empty L (j : Int) = L[j] := by
          unfold rdOf
          rw [Int.toNat_natCast, List.getD_eq_getElem?_getD, List.getElem?_eq_getElem hjn]
          rfl
        rw [hxe] at hcell
        have hd : L.drop j = L[j] :: L.drop (j + 1) := List.drop_eq_getElem_cons hjn
        have hxs : L[j].size ≤ s.size := HP.out _ (List.getElem_mem hjn)
        generalize L[j] = x at hcell hd hxs
        rw [hd] at hT hF
        have hbe : (L.drop (j + 1)).length = L.length - (j + 1) := List.length_drop
        have HC := Lib.hid (fun W => containsAny_any x W (by have := HS.out; omega))
        clear hd hxs hxe
        have hlast : ((L.drop (j + 1)).length == 0) = decide ((j : Int) = (L.length : Int) - 1) := by
          rw [hbe]
          by_cases h : j + 1 = L.length
          · rw [decide_eq_true (by omega), h]; simp
          · rw [decide_eq_false (by omega)]; exact beq_eq_false_iff_ne.2 (by omega)
        have hnext : (levelOk x (L.drop (j + 1)).length = true) → Hid (okL (L.drop (j + 1)) = true → okL L = true) ∧ Hid (okL (L.drop (j + 1)) = false → okL L = false) := fun h =>
          ⟨Lib.hid fun h2 => hT.out (by unfold okL; rw [h, h2]; rfl), Lib.hid fun h2 => hF.out (by unfold okL; rw [h, h2]; rfl)⟩
        have hend : (levelOk x (L.drop (j + 1)).length = false) → okL L = false := fun h => hF.out (by unfold okL; rw [h]; rfl)
        have HNX := Lib.hid hnext
        have HED := Lib.hid hend
        have HLA := Lib.hid hlast
        clear hT hF hnext hend hlast hbe
        by_cases h43 : x.toList = [43]
        · have b0 : (x.toList == ([43] : List UInt8)) = true := beq_iff_eq.2 h43
          have HOK := Lib.hid (HNX.out (by unfold levelOk; rw [b0]; rfl))
          clear h43
          go_wp2
          go_roundg g1
          case measure => omega
          case rel => exact ⟨j + 1, Lib.hid (by have := hj.out; omega), by simp, HOK.out.1, HOK.out.2, HB⟩
        · have b0 : (x.toList == ([43] : List UInt8)) = false := beq_eq_false_iff_ne.2 h43
          clear h43
          by_cases h35 : x.toList = [35] ∧ j + 1 = L.length
          · have b1 : (x.toList == ([35] : List UInt8)) = true := beq_iff_eq.2 h35.1
            have hj2 : ((j : Int) == (L.length : Int) - 1) = true := beq_iff_eq.2 (by omega)
            have HOK := Lib.hid (HNX.out (by unfold levelOk; rw [b1, HLA.out, decide_eq_true (by omega)]; simp))
            clear h35
            go_wp2
            go_roundg g1
            case measure => omega
            case rel => exact ⟨j + 1, Lib.hid (by have := hj.out; omega), by simp, HOK.out.1, HOK.out.2, HB⟩
          · have hlo : levelOk x (L.drop (j + 1)).length = !signsB x := by
              unfold levelOk
              rw [b0, HLA.out]
              by_cases h1 : x.toList = [35]
              · rw [decide_eq_false (by have hne : ¬ j + 1 = L.length := (fun h => h35 ⟨h1, h⟩); omega)]; simp
              · rw [beq_eq_false_iff_ne.2 h1]; simp
            have HLO := Lib.hid hlo
            clear hlo
            have hnext : (!signsB x) = true → Hid (okL (L.drop (j + 1)) = true → okL L = true) ∧ Hid (okL (L.drop (j + 1)) = false → okL L = false) := fun h => HNX.out (HLO.out.trans h)
            have hend : (!signsB x) = false → okL L = false := fun h => HED.out (HLO.out.trans h)
            have HNX2 := Lib.hid hnext
            have HED2 := Lib.hid hend
            clear hnext hend HNX HED HLO HLA
            obtain ⟨sx, hsx⟩ : ∃ sx, signsB x = sx := ⟨_, rfl⟩
            rw [hsx] at HC HNX2 HED2
            clear hsx
            by_cases h1 : x.toList = [35]
            · have b1 : (x.toList == ([35] : List UInt8)) = true := beq_iff_eq.2 h1
              have hj2 : ((j : Int) == (L.length : Int) - 1) = false := beq_eq_false_iff_ne.2 (by have hne : ¬ j + 1 = L.length := (fun h => h35 ⟨h1, h⟩); omega)
              clear h1 h35
              cases sx
              · have HOK := Lib.hid (HNX2.out rfl)
                go_wp2_with (first
                  | (go_at_call 43; refine (HC.out _).mono ?_; rintro e w5 ⟨rfl, hb5⟩; have HB5 := Lib.hid (HB.out.trans (hb5.mono HB.out.size)); clear hb5))
                go_roundg g1
                case measure => omega
                case rel => exact ⟨j + 1, Lib.hid (by have := hj.out; omega), by simp, HOK.out.1, HOK.out.2, HB5⟩
              · have HOK := Lib.hid (HED2.out rfl)
                go_wp2_with (first
                  | (go_at_call 43; refine (HC.out _).mono ?_; rintro e w5 ⟨rfl, hb5⟩; have HB5 := Lib.hid (HB.out.trans (hb5.mono HB.out.size)); clear hb5))
                go_ret
                exact ⟨false, rfl, ⟨true, HTW.out, by rw [HLE.out, HOK.out]; rfl⟩, HB2.out.trans (HB5.out.mono HB2.out.size)⟩
            · have b1 : (x.toList == ([35] : List UInt8)) = false := beq_eq_false_iff_ne.2 h1
              clear h1 h35
              cases sx
              · have HOK := Lib.hid (HNX2.out rfl)
                go_wp2_with (first
                  | (go_at_call 43; refine (HC.out _).mono ?_; rintro e w5 ⟨rfl, hb5⟩; have HB5 := Lib.hid (HB.out.trans (hb5.mono HB.out.size)); clear hb5))
                go_roundg g1
                case measure => omega
                case rel => exact ⟨j + 1, Lib.hid (by have := hj.out; omega), by simp, HOK.out.1, HOK.out.2, HB5⟩
              · have HOK := Lib.hid (HED2.out rfl)
                go_wp2_with (first
                  | (go_at_call 43; refine (HC.out _).mono ?_; rintro e w5 ⟨rfl, hb5⟩; have HB5 := Lib.hid (HB.out.trans (hb5.mono HB.out.size)); clear hb5))
                go_ret
                exact ⟨false, rfl, ⟨true, HTW.out, by rw [HLE.out, HOK.out]; rfl⟩, HB2.out.trans (HB5.out.mono HB2.out.size)⟩
end Go.Proofs.YtjlohmhmnghjkaaDoor

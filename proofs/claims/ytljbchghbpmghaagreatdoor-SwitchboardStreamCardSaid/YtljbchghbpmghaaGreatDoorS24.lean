/- The text of an unsubscribe. -/
import Derived.Test.YtljbchghbpmghaaGreatDoorS23
namespace Go.Proofs.YtljbchghbpmghaaGreatDoor
open Go.RowKit Go.Lib Go.Proofs.YtljbchghbpmghaaGreatDoorW.PrintWords Go.Proofs.YtljbchghbpmghaaGreatDoor.PSwitchboardGreat
set_option linter.unusedVariables false
set_option linter.unusedSimpArgs false
/-- A list of strings in memory. -/
def FL (w : World) (A : Option Addr) (l : List ByteArray) : Prop := Kd.C Kd.string w A l.length l
theorem FL.to {w w1 : World} {A : Option Addr} {l : List ByteArray} (h : FL w A l) (hb : Below w.heap.size w w1) : FL w1 A l := Kd.C_below h hb
theorem FL.at {w : World} {A : Option Addr} {l : List ByteArray} (h : FL w A l) (j : Nat) (hj : j < l.length) : ∃ ad, A = some ad ∧ w.cell? (ad.add j) = some (.string l[j]) := by
  obtain ⟨ad, c, e, _, hK, hc0⟩ := Kd.C_get h ⟨#[]⟩ (j : Int) (by omega) (by omega)
  have hK2 : c = [.string (l.getD j ⟨#[]⟩)] := hK
  subst hK2
  have h2 := hc0 0 _ rfl
  have h3 : l.getD j ⟨#[]⟩ = l[j] := by simp [List.getD_eq_getElem?_getD, List.getElem?_eq_getElem hj]
  rw [h3] at h2
  refine ⟨ad, e, ?_⟩
  have h4 : (j : Int).toNat * Kd.string.sz + 0 = j := by
    show j * 1 + 0 = j
    omega
  rw [h4] at h2
  exact h2
def datsB (l : List ByteArray) : List UInt8 := l.flatMap dat
theorem datsB_snoc (l : List ByteArray) (k : Nat) (hk : k < l.length) : datsB (l.take (k + 1)) = datsB (l.take k) ++ dat l[k] := by
  unfold datsB
  rw [List.take_succ_eq_append_getElem hk, List.flatMap_append]
  simp
theorem datsB_take (l : List ByteArray) (k : Nat) : (datsB (l.take k)).length ≤ (datsB l).length := by
  have h : datsB l = datsB (l.take k) ++ datsB (l.drop k) := by
    unfold datsB
    rw [← List.flatMap_append, List.take_append_drop]
  rw [h, List.length_append]
  omega
set_option maxHeartbeats 4000000 in
set_option maxRecDepth 1000000 in
theorem untext_calls {w : World} {id c c2 : Nat} {A A2 : Option Addr} {L : List PR} {fs : List ByteArray} (hid : id ≤ 4294967295) (hlk : LOk L) (hc : L.length ≤ c) (hL : PL w A L) (hF : FL w A2 fs) (hfs : ∀ s ∈ fs, s.size ≤ 65535) (hln : (datsB fs).length ≤ 100000) (hn : fs.length ≤ 100000) : Calls Tryz.prog 125 #[.agg #[.int .u32 (id : Nat), .slice A L.length c, .slice A2 fs.length c2]] w fun e w' => e = .returned (.string (toB ((([] ++ be2 (id % 65536)) ++ putB L) ++ datsB fs))) ∧ Below w.heap.size w w' := by
  have HHD := Lib.hid (fun W (hb : Below w.heap.size w W) => head_calls (w := W) hid hlk hc (hL.to hb))
  have HFL := Lib.hid hF
  have HFS := Lib.hid hfs
  have HLN := Lib.hid hln
  have HN := Lib.hid hn
  have HPUT := Lib.hid (show ((([] : List UInt8) ++ be2 (id % 65536)) ++ putB L).length ≤ 200000 by
    have := putB_len L hlk.sz
    rw [List.length_append]
    show 2 + _ ≤ 200000
    omega)
  have HX := Lib.hid (heap_alloc_new w (.cells #[.int .u32 (id : Nat), .slice A L.length c, .slice A2 fs.length c2] 130))
  have HB := Lib.hid (show Below w.heap.size w (w.alloc (.cells #[.int .u32 (id : Nat), .slice A L.length c, .slice A2 fs.length c2] 130)) from (Below.refl _ _).alloc (Nat.le_refl _) _)
  clear hid hlk hc hL hF hfs hln hn
  go_enter Tryz.func125, Tryz.ntmps125
  go_upto_region 1 with (fail)
  generalize (w.alloc (.cells #[.int .u32 (id : Nat), .slice A L.length c, .slice A2 fs.length c2] 130)) = W0 at HX HB ⊢
  obtain ⟨x0, x1, x2⟩ := frcell HX.out
  obtain ⟨N, hN⟩ : ∃ N, N = W0.heap.size := ⟨_, rfl⟩
  have HLT := Lib.hid (show w.heap.size < N from hN ▸ blk_lt HX.out)
  have HNE := Lib.hid hN
  clear hN
  go_upto_region 3 with (first
    | (go_at_call 123; (with_reducible refine (HHD.out _ HB.out).mono ?_); rintro e w1 ⟨b, rfl, hbb, ho, hb⟩; have HO1 := Lib.hid (show OW w1 b (fun k => N ≤ k) _ from HNE.out ▸ ho); have HX1 := Lib.hid (blk_below HX.out hb); have HB1 := Lib.hid (HB.out.trans (hb.mono HB.out.size)); have HBS := Lib.hid (show N ≤ w1.heap.size from HNE.out ▸ hb.size); have HBB := Lib.hid (show N ≤ b from HNE.out ▸ hbb); obtain ⟨y0, y1, y2⟩ := frcell HX1.out; clear hb ho hbb))
  clear x0 x1 x2 y0 y1 y2 HX HB
  obtain ⟨HEAD, hhd⟩ : ∃ l : List UInt8, l = (([] ++ be2 (id % 65536)) ++ putB L) := ⟨_, rfl⟩
  rw [← hhd] at HPUT HO1
  have HHE := Lib.hid hhd
  clear hhd
  have HO2 := Lib.hid (show OW w1 b (fun k => N ≤ k) (HEAD ++ datsB (fs.take 0)) by
    have h := HO1.out
    rw [List.take_zero]
    show OW w1 b _ (HEAD ++ [])
    rw [List.append_nil]
    exact h)
  clear HO1
  go_loopg [14] fs.length (fun gh v14 wx => ∃ j : Nat, Hid (j + gh = fs.length) ∧ v14 = .int .i64 j ∧ Hid (OW wx b (fun k => N ≤ k) (HEAD ++ datsB (fs.take j))) ∧ Hid (Below w.heap.size w wx) ∧ Hid (N ≤ wx.heap.size))
  case atStart => exact ⟨0, Lib.hid (Nat.zero_add _), rfl, HO2, HB1, HBS⟩
  case round =>
    clear HO2 HB1 HBS
    obtain ⟨j, hj, rfl, HO2, HB1, HBS⟩ := hrel
    cases gk with
    | zero =>
      have hkb := hj.out
      obtain rfl : j = fs.length := by omega
      rw [List.take_length] at HO2
      clear hkb hj
      go_wp2_with (first | (go_at_call 16; (with_reducible refine (text_calls HO2.out).mono ?_); rintro e w3 ⟨rfl, hb⟩; have HB3 := Lib.hid (HB1.out.trans (hb.mono HB1.out.size)); clear hb))
      go_ret
      exact ⟨by rw [HHE.out]; simp, HB3.out⟩
    | succ g1 =>
      have hkb := hj.out
      have hlt2 : j < fs.length := by omega
      have hlt : (j : Int) < (fs.length : Int) := by omega
      have HJ := Lib.hid (show j + g1 + 1 = fs.length by omega)
      obtain ⟨ad, rfl, hcell⟩ := (HFL.out.to HB1.out).at j hlt2
      have HSN := Lib.hid (datsB_snoc fs j hlt2)
      have HSZ := Lib.hid (HFS.out fs[j] (List.getElem_mem hlt2))
      have HTK := Lib.hid (show (HEAD ++ datsB (fs.take j)).length ≤ 900000 by
        have h1 := datsB_take fs j
        have h2 := HLN.out
        have h3 := HPUT.out
        rw [List.length_append]
        omega)
      generalize fs[j] = x at HSN HSZ hcell
      clear hkb hj
      go_wp2_with (first | (go_at_call 106; (with_reducible refine (dat_calls HO2.out HBS.out HTK.out x HSZ.out).mono ?_); rintro e w2 ⟨rfl, ho, hc1⟩; have HO3 := Lib.hid (show OW w2 b (fun k => N ≤ k) (HEAD ++ datsB (fs.take (j + 1))) by rw [HSN.out, ← List.append_assoc]; exact ho); have HB3 := Lib.hid (HB1.out.trans (hc1.to_below HB1.out.size (by have h1 := HBB.out; have h2 := HLT.out; omega) (fun k hk => by have h2 := HLT.out; omega))); have HBS3 := Lib.hid (Nat.le_trans HBS.out hc1.size); clear ho hc1))
      go_roundg g1
      case measure => omega
      case rel => exact ⟨j + 1, Lib.hid (by have := HJ.out; omega), by have hb1 := HJ.out; have hb2 := HN.out; rw [w64n j (by omega)], HO3, HB3, HBS3⟩
end Go.Proofs.YtljbchghbpmghaaGreatDoor

/- connect.Connect.parts. -/
import Derived.Test.YtljbchghbpmghaaGreatDoorS10
namespace Go.Proofs.YtljbchghbpmghaaGreatDoor
open Go.RowKit Go.Lib Go.Proofs.YtljbchghbpmghaaGreatDoorW.PrintWords Go.Proofs.YtljbchghbpmghaaGreatDoor.PSwitchboardGreat
set_option linter.unusedVariables false
set_option linter.unusedSimpArgs false
theorem ncell {w : World} {bx : Nat} {t : TypeId} {a0 a1 a2 a3 a4 a5 a6 a7 a8 a9 a10 a11 a12 a13 : Value} (h : w.heap[bx]? = some (.cells #[a0, a1, a2, a3, a4, a5, a6, a7, a8, a9, a10, a11, a12, a13] t (0, 0))) : w.cell? ⟨bx, 0, none⟩ = some a0 ∧ w.cell? ⟨bx, 1, none⟩ = some a1 ∧ w.cell? ⟨bx, 2, none⟩ = some a2 ∧ w.cell? ⟨bx, 3, none⟩ = some a3 ∧ w.cell? ⟨bx, 4, none⟩ = some a4 ∧ w.cell? ⟨bx, 5, none⟩ = some a5 ∧ w.cell? ⟨bx, 6, none⟩ = some a6 ∧ w.cell? ⟨bx, 7, none⟩ = some a7 ∧ w.cell? ⟨bx, 8, none⟩ = some a8 ∧ w.cell? ⟨bx, 9, none⟩ = some a9 ∧ w.cell? ⟨bx, 10, none⟩ = some a10 ∧ w.cell? ⟨bx, 11, none⟩ = some a11 ∧ w.cell? ⟨bx, 12, none⟩ = some a12 ∧ w.cell? ⟨bx, 13, none⟩ = some a13 :=
  ⟨(blk_cell h 0).trans rfl, (blk_cell h 1).trans rfl, (blk_cell h 2).trans rfl, (blk_cell h 3).trans rfl, (blk_cell h 4).trans rfl, (blk_cell h 5).trans rfl, (blk_cell h 6).trans rfl, (blk_cell h 7).trans rfl, (blk_cell h 8).trans rfl, (blk_cell h 9).trans rfl, (blk_cell h 10).trans rfl, (blk_cell h 11).trans rfl, (blk_cell h 12).trans rfl, (blk_cell h 13).trans rfl⟩
/-- What stands behind a connect's properties. -/
structure TD where
  id : ByteArray
  WL : List PR
  wt : ByteArray
  wp : ByteArray
  us : ByteArray
  pa : ByteArray
structure TD.Ok (d : TD) : Prop where
  id : d.id.size ≤ 65535
  WL : LOk d.WL
  wt : d.wt.size ≤ 65535
  wp : d.wp.size ≤ 65535
  us : d.us.size ≤ 65535
  pa : d.pa.size ≤ 65535
def TD.len (d : TD) (hw hu hp : Bool) : Nat := 2 + d.id.size + ((if hw then (putB d.WL).length + (2 + d.wt.size + (2 + d.wp.size)) else 0) + ((if hu then 2 + d.us.size else 0) + (if hp then 2 + d.pa.size else 0)))
def PartsP (w : World) (bp g : Nat) (a0 a1 a2 a8 a9 : Value) (hw hu hp : Bool) (s : ByteArray) (er : Int) (e : Ending) (w' : World) : Prop := ∃ (d : TD) (A : Option Addr) (c : Nat) (s' : ByteArray) (er' : Int), e = .returned (.tuple #[]) ∧ d.Ok ∧ w'.heap[bp]? = some (.cells #[a0, a1, a2, .string d.id, .bool hw, .slice A d.WL.length c, .string d.wt, .string d.wp, a8, a9, .bool hu, .bool hp, .string d.us, .string d.pa] 85 (0, 0)) ∧ IN w' g s' er' ∧ Chg (fun i => i = g ∨ i = bp) w w' ∧ PO w' 0 (fun _ => True) (.slice A d.WL.length c) d.WL ∧ Eat s er s' er' (d.len hw hu hp)
theorem chg_both {w W W' : World} {g bp : Nat} (h : Chg (fun i => i = g ∨ i = bp) w W) (hc : Chg (fun i => i = g) W W') (i : Nat) (u : Value) : Chg (fun i => i = g ∨ i = bp) w (W'.setCell ⟨bp, i, none⟩ u) :=
  (h.trans (hc.mono (fun k hk => .inl hk))).setCell (p := ⟨bp, i, none⟩) (.inl (.inr rfl)) u
set_option maxHeartbeats 4000000 in
set_option maxRecDepth 1000000 in
theorem parts_000 {w : World} {bp g : Nat} {a0 a1 a2 a8 a9 : Value} {s : ByteArray} {er : Int} (hB : w.heap[bp]? = some (.cells #[a0, a1, a2, .string ⟨#[]⟩, .bool false, .slice none 0 0, .string ⟨#[]⟩, .string ⟨#[]⟩, a8, a9, .bool false, .bool false, .string ⟨#[]⟩, .string ⟨#[]⟩] 85 (0, 0))) (h : IN w g s er) (hs : er = 0 → s.size ≤ 100000) : Calls Tryz.prog 52 #[.pointer (some ⟨bp, 0, none⟩), .pointer (some ⟨g, 0, none⟩)] w (PartsP w bp g a0 a1 a2 a8 a9 false false false s er) := by
  have HNB := Lib.hid (show bp ≠ g from fun e => blk_ne h hB (by decide) e.symm)
  have HI0 := Lib.hid h
  have HB0 := Lib.hid hB
  have HC0 := Lib.hid (Chg.refl (fun i => i = g ∨ i = bp) w)
  have HSS := Lib.hid hs
  clear h hB hs
  go_enter Tryz.func52, Tryz.ntmps52
  obtain ⟨n0, n1, n2, n3, n4, n5, n6, n7, n8, n9, n10, n11, n12, n13⟩ := ncell HB0.out
  go_upto_region 1 with (first | (go_at_call 49; (with_reducible refine (wt_in HI0.out).mono ?_); rintro e w1 hp; obtain ⟨x1, s1, e1, rfl, hx, hi, hc, hE⟩ := hp; have HV1 := Lib.hid hx; clear hx; have fz := blk_frozen (hc.blk HB0.out HNB.out) 3; have cz := ncell (hc.blk HB0.out HNB.out); have HI1 := Lib.hid (hi.setc bp 3 (.string x1) (fun e => HNB.out e.symm)); have HB1 := Lib.hid (blk_put (hc.blk HB0.out HNB.out) 3 (.string x1) rfl); have HC1 := Lib.hid (chg_both HC0.out hc 3 (.string x1)); have HE1 := Lib.hid (hE); obtain ⟨m0, m1, m2, m3, m4, m5, m6, m7, m8, m9, m10, m11, m12, m13⟩ := cz; clear hi hc hE))
  clear HI0 HB0 HC0 fz m0 m1 m2 m3 m4 m5 m6 m7 m8 m9 m10 m11 m12 m13 n0 n1 n2 n3 n4 n5 n6 n7 n8 n9 n10 n11 n12 n13
  generalize (w1.setCell ⟨bp, 3, none⟩ (.string x1)) = W1 at HI1 HB1 HC1 ⊢
  obtain ⟨n0, n1, n2, n3, n4, n5, n6, n7, n8, n9, n10, n11, n12, n13⟩ := ncell HB1.out
  go_wp2_with (fail)
  go_end0
  exact ⟨(⟨x1, [], ⟨#[]⟩, ⟨#[]⟩, ⟨#[]⟩, ⟨#[]⟩⟩ : TD), none, 0, s1, e1, rfl, ⟨HV1.out, lok_nil, Nat.zero_le _, Nat.zero_le _, Nat.zero_le _, Nat.zero_le _⟩, HB1.out, HI1.out, HC1.out, po_nil _, HE1.out.le (by unfold TD.len; simp only [if_true, if_false, Bool.false_eq_true]; omega)⟩
set_option maxHeartbeats 4000000 in
set_option maxRecDepth 1000000 in
theorem parts_001 {w : World} {bp g : Nat} {a0 a1 a2 a8 a9 : Value} {s : ByteArray} {er : Int} (hB : w.heap[bp]? = some (.cells #[a0, a1, a2, .string ⟨#[]⟩, .bool false, .slice none 0 0, .string ⟨#[]⟩, .string ⟨#[]⟩, a8, a9, .bool false, .bool true, .string ⟨#[]⟩, .string ⟨#[]⟩] 85 (0, 0))) (h : IN w g s er) (hs : er = 0 → s.size ≤ 100000) : Calls Tryz.prog 52 #[.pointer (some ⟨bp, 0, none⟩), .pointer (some ⟨g, 0, none⟩)] w (PartsP w bp g a0 a1 a2 a8 a9 false false true s er) := by
  have HNB := Lib.hid (show bp ≠ g from fun e => blk_ne h hB (by decide) e.symm)
  have HI0 := Lib.hid h
  have HB0 := Lib.hid hB
  have HC0 := Lib.hid (Chg.refl (fun i => i = g ∨ i = bp) w)
  have HSS := Lib.hid hs
  clear h hB hs
  go_enter Tryz.func52, Tryz.ntmps52
  obtain ⟨n0, n1, n2, n3, n4, n5, n6, n7, n8, n9, n10, n11, n12, n13⟩ := ncell HB0.out
  go_upto_region 1 with (first | (go_at_call 49; (with_reducible refine (wt_in HI0.out).mono ?_); rintro e w1 hp; obtain ⟨x1, s1, e1, rfl, hx, hi, hc, hE⟩ := hp; have HV1 := Lib.hid hx; clear hx; have fz := blk_frozen (hc.blk HB0.out HNB.out) 3; have cz := ncell (hc.blk HB0.out HNB.out); have HI1 := Lib.hid (hi.setc bp 3 (.string x1) (fun e => HNB.out e.symm)); have HB1 := Lib.hid (blk_put (hc.blk HB0.out HNB.out) 3 (.string x1) rfl); have HC1 := Lib.hid (chg_both HC0.out hc 3 (.string x1)); have HE1 := Lib.hid (hE); obtain ⟨m0, m1, m2, m3, m4, m5, m6, m7, m8, m9, m10, m11, m12, m13⟩ := cz; clear hi hc hE))
  clear HI0 HB0 HC0 fz m0 m1 m2 m3 m4 m5 m6 m7 m8 m9 m10 m11 m12 m13 n0 n1 n2 n3 n4 n5 n6 n7 n8 n9 n10 n11 n12 n13
  generalize (w1.setCell ⟨bp, 3, none⟩ (.string x1)) = W1 at HI1 HB1 HC1 ⊢
  obtain ⟨n0, n1, n2, n3, n4, n5, n6, n7, n8, n9, n10, n11, n12, n13⟩ := ncell HB1.out
  go_wp2_with (first | (go_at_call 62; (with_reducible refine (dt_in HI1.out).mono ?_); rintro e w2 hp; obtain ⟨x2, s2, e2, rfl, hx, hi, hc, hE⟩ := hp; have HV2 := Lib.hid hx; clear hx; have fz := blk_frozen (hc.blk HB1.out HNB.out) 13; have cz := ncell (hc.blk HB1.out HNB.out); have HI2 := Lib.hid (hi.setc bp 13 (.string x2) (fun e => HNB.out e.symm)); have HB2 := Lib.hid (blk_put (hc.blk HB1.out HNB.out) 13 (.string x2) rfl); have HC2 := Lib.hid (chg_both HC1.out hc 13 (.string x2)); have HE2 := Lib.hid (HE1.out.trans hE); obtain ⟨m0, m1, m2, m3, m4, m5, m6, m7, m8, m9, m10, m11, m12, m13⟩ := cz; clear hi hc hE))
  go_end0
  exact ⟨(⟨x1, [], ⟨#[]⟩, ⟨#[]⟩, ⟨#[]⟩, x2⟩ : TD), none, 0, s2, e2, rfl, ⟨HV1.out, lok_nil, Nat.zero_le _, Nat.zero_le _, Nat.zero_le _, HV2.out⟩, HB2.out, HI2.out, HC2.out, po_nil _, HE2.out.le (by unfold TD.len; simp only [if_true, if_false, Bool.false_eq_true]; omega)⟩
set_option maxHeartbeats 4000000 in
set_option maxRecDepth 1000000 in
theorem parts_010 {w : World} {bp g : Nat} {a0 a1 a2 a8 a9 : Value} {s : ByteArray} {er : Int} (hB : w.heap[bp]? = some (.cells #[a0, a1, a2, .string ⟨#[]⟩, .bool false, .slice none 0 0, .string ⟨#[]⟩, .string ⟨#[]⟩, a8, a9, .bool true, .bool false, .string ⟨#[]⟩, .string ⟨#[]⟩] 85 (0, 0))) (h : IN w g s er) (hs : er = 0 → s.size ≤ 100000) : Calls Tryz.prog 52 #[.pointer (some ⟨bp, 0, none⟩), .pointer (some ⟨g, 0, none⟩)] w (PartsP w bp g a0 a1 a2 a8 a9 false true false s er) := by
  have HNB := Lib.hid (show bp ≠ g from fun e => blk_ne h hB (by decide) e.symm)
  have HI0 := Lib.hid h
  have HB0 := Lib.hid hB
  have HC0 := Lib.hid (Chg.refl (fun i => i = g ∨ i = bp) w)
  have HSS := Lib.hid hs
  clear h hB hs
  go_enter Tryz.func52, Tryz.ntmps52
  obtain ⟨n0, n1, n2, n3, n4, n5, n6, n7, n8, n9, n10, n11, n12, n13⟩ := ncell HB0.out
  go_upto_region 1 with (first | (go_at_call 49; (with_reducible refine (wt_in HI0.out).mono ?_); rintro e w1 hp; obtain ⟨x1, s1, e1, rfl, hx, hi, hc, hE⟩ := hp; have HV1 := Lib.hid hx; clear hx; have fz := blk_frozen (hc.blk HB0.out HNB.out) 3; have cz := ncell (hc.blk HB0.out HNB.out); have HI1 := Lib.hid (hi.setc bp 3 (.string x1) (fun e => HNB.out e.symm)); have HB1 := Lib.hid (blk_put (hc.blk HB0.out HNB.out) 3 (.string x1) rfl); have HC1 := Lib.hid (chg_both HC0.out hc 3 (.string x1)); have HE1 := Lib.hid (hE); obtain ⟨m0, m1, m2, m3, m4, m5, m6, m7, m8, m9, m10, m11, m12, m13⟩ := cz; clear hi hc hE))
  clear HI0 HB0 HC0 fz m0 m1 m2 m3 m4 m5 m6 m7 m8 m9 m10 m11 m12 m13 n0 n1 n2 n3 n4 n5 n6 n7 n8 n9 n10 n11 n12 n13
  generalize (w1.setCell ⟨bp, 3, none⟩ (.string x1)) = W1 at HI1 HB1 HC1 ⊢
  obtain ⟨n0, n1, n2, n3, n4, n5, n6, n7, n8, n9, n10, n11, n12, n13⟩ := ncell HB1.out
  go_upto_region 7 with (first | (go_at_call 49; (with_reducible refine (wt_in HI1.out).mono ?_); rintro e w2 hp; obtain ⟨x2, s2, e2, rfl, hx, hi, hc, hE⟩ := hp; have HV2 := Lib.hid hx; clear hx; have fz := blk_frozen (hc.blk HB1.out HNB.out) 12; have cz := ncell (hc.blk HB1.out HNB.out); have HI2 := Lib.hid (hi.setc bp 12 (.string x2) (fun e => HNB.out e.symm)); have HB2 := Lib.hid (blk_put (hc.blk HB1.out HNB.out) 12 (.string x2) rfl); have HC2 := Lib.hid (chg_both HC1.out hc 12 (.string x2)); have HE2 := Lib.hid (HE1.out.trans hE); obtain ⟨m0, m1, m2, m3, m4, m5, m6, m7, m8, m9, m10, m11, m12, m13⟩ := cz; clear hi hc hE))
  clear HI1 HB1 HC1 fz m0 m1 m2 m3 m4 m5 m6 m7 m8 m9 m10 m11 m12 m13 n0 n1 n2 n3 n4 n5 n6 n7 n8 n9 n10 n11 n12 n13
  generalize (w2.setCell ⟨bp, 12, none⟩ (.string x2)) = W2 at HI2 HB2 HC2 ⊢
  obtain ⟨n0, n1, n2, n3, n4, n5, n6, n7, n8, n9, n10, n11, n12, n13⟩ := ncell HB2.out
  go_wp2_with (fail)
  go_end0
  exact ⟨(⟨x1, [], ⟨#[]⟩, ⟨#[]⟩, x2, ⟨#[]⟩⟩ : TD), none, 0, s2, e2, rfl, ⟨HV1.out, lok_nil, Nat.zero_le _, Nat.zero_le _, HV2.out, Nat.zero_le _⟩, HB2.out, HI2.out, HC2.out, po_nil _, HE2.out.le (by unfold TD.len; simp only [if_true, if_false, Bool.false_eq_true]; omega)⟩
set_option maxHeartbeats 4000000 in
set_option maxRecDepth 1000000 in
theorem parts_011 {w : World} {bp g : Nat} {a0 a1 a2 a8 a9 : Value} {s : ByteArray} {er : Int} (hB : w.heap[bp]? = some (.cells #[a0, a1, a2, .string ⟨#[]⟩, .bool false, .slice none 0 0, .string ⟨#[]⟩, .string ⟨#[]⟩, a8, a9, .bool true, .bool true, .string ⟨#[]⟩, .string ⟨#[]⟩] 85 (0, 0))) (h : IN w g s er) (hs : er = 0 → s.size ≤ 100000) : Calls Tryz.prog 52 #[.pointer (some ⟨bp, 0, none⟩), .pointer (some ⟨g, 0, none⟩)] w (PartsP w bp g a0 a1 a2 a8 a9 false true true s er) := by
  have HNB := Lib.hid (show bp ≠ g from fun e => blk_ne h hB (by decide) e.symm)
  have HI0 := Lib.hid h
  have HB0 := Lib.hid hB
  have HC0 := Lib.hid (Chg.refl (fun i => i = g ∨ i = bp) w)
  have HSS := Lib.hid hs
  clear h hB hs
  go_enter Tryz.func52, Tryz.ntmps52
  obtain ⟨n0, n1, n2, n3, n4, n5, n6, n7, n8, n9, n10, n11, n12, n13⟩ := ncell HB0.out
  go_upto_region 1 with (first | (go_at_call 49; (with_reducible refine (wt_in HI0.out).mono ?_); rintro e w1 hp; obtain ⟨x1, s1, e1, rfl, hx, hi, hc, hE⟩ := hp; have HV1 := Lib.hid hx; clear hx; have fz := blk_frozen (hc.blk HB0.out HNB.out) 3; have cz := ncell (hc.blk HB0.out HNB.out); have HI1 := Lib.hid (hi.setc bp 3 (.string x1) (fun e => HNB.out e.symm)); have HB1 := Lib.hid (blk_put (hc.blk HB0.out HNB.out) 3 (.string x1) rfl); have HC1 := Lib.hid (chg_both HC0.out hc 3 (.string x1)); have HE1 := Lib.hid (hE); obtain ⟨m0, m1, m2, m3, m4, m5, m6, m7, m8, m9, m10, m11, m12, m13⟩ := cz; clear hi hc hE))
  clear HI0 HB0 HC0 fz m0 m1 m2 m3 m4 m5 m6 m7 m8 m9 m10 m11 m12 m13 n0 n1 n2 n3 n4 n5 n6 n7 n8 n9 n10 n11 n12 n13
  generalize (w1.setCell ⟨bp, 3, none⟩ (.string x1)) = W1 at HI1 HB1 HC1 ⊢
  obtain ⟨n0, n1, n2, n3, n4, n5, n6, n7, n8, n9, n10, n11, n12, n13⟩ := ncell HB1.out
  go_upto_region 7 with (first | (go_at_call 49; (with_reducible refine (wt_in HI1.out).mono ?_); rintro e w2 hp; obtain ⟨x2, s2, e2, rfl, hx, hi, hc, hE⟩ := hp; have HV2 := Lib.hid hx; clear hx; have fz := blk_frozen (hc.blk HB1.out HNB.out) 12; have cz := ncell (hc.blk HB1.out HNB.out); have HI2 := Lib.hid (hi.setc bp 12 (.string x2) (fun e => HNB.out e.symm)); have HB2 := Lib.hid (blk_put (hc.blk HB1.out HNB.out) 12 (.string x2) rfl); have HC2 := Lib.hid (chg_both HC1.out hc 12 (.string x2)); have HE2 := Lib.hid (HE1.out.trans hE); obtain ⟨m0, m1, m2, m3, m4, m5, m6, m7, m8, m9, m10, m11, m12, m13⟩ := cz; clear hi hc hE))
  clear HI1 HB1 HC1 fz m0 m1 m2 m3 m4 m5 m6 m7 m8 m9 m10 m11 m12 m13 n0 n1 n2 n3 n4 n5 n6 n7 n8 n9 n10 n11 n12 n13
  generalize (w2.setCell ⟨bp, 12, none⟩ (.string x2)) = W2 at HI2 HB2 HC2 ⊢
  obtain ⟨n0, n1, n2, n3, n4, n5, n6, n7, n8, n9, n10, n11, n12, n13⟩ := ncell HB2.out
  go_wp2_with (first | (go_at_call 62; (with_reducible refine (dt_in HI2.out).mono ?_); rintro e w3 hp; obtain ⟨x3, s3, e3, rfl, hx, hi, hc, hE⟩ := hp; have HV3 := Lib.hid hx; clear hx; have fz := blk_frozen (hc.blk HB2.out HNB.out) 13; have cz := ncell (hc.blk HB2.out HNB.out); have HI3 := Lib.hid (hi.setc bp 13 (.string x3) (fun e => HNB.out e.symm)); have HB3 := Lib.hid (blk_put (hc.blk HB2.out HNB.out) 13 (.string x3) rfl); have HC3 := Lib.hid (chg_both HC2.out hc 13 (.string x3)); have HE3 := Lib.hid (HE2.out.trans hE); obtain ⟨m0, m1, m2, m3, m4, m5, m6, m7, m8, m9, m10, m11, m12, m13⟩ := cz; clear hi hc hE))
  go_end0
  exact ⟨(⟨x1, [], ⟨#[]⟩, ⟨#[]⟩, x2, x3⟩ : TD), none, 0, s3, e3, rfl, ⟨HV1.out, lok_nil, Nat.zero_le _, Nat.zero_le _, HV2.out, HV3.out⟩, HB3.out, HI3.out, HC3.out, po_nil _, HE3.out.le (by unfold TD.len; simp only [if_true, if_false, Bool.false_eq_true]; omega)⟩
set_option maxHeartbeats 4000000 in
set_option maxRecDepth 1000000 in
theorem parts_100 {w : World} {bp g : Nat} {a0 a1 a2 a8 a9 : Value} {s : ByteArray} {er : Int} (hB : w.heap[bp]? = some (.cells #[a0, a1, a2, .string ⟨#[]⟩, .bool true, .slice none 0 0, .string ⟨#[]⟩, .string ⟨#[]⟩, a8, a9, .bool false, .bool false, .string ⟨#[]⟩, .string ⟨#[]⟩] 85 (0, 0))) (h : IN w g s er) (hs : er = 0 → s.size ≤ 100000) : Calls Tryz.prog 52 #[.pointer (some ⟨bp, 0, none⟩), .pointer (some ⟨g, 0, none⟩)] w (PartsP w bp g a0 a1 a2 a8 a9 true false false s er) := by
  have HNB := Lib.hid (show bp ≠ g from fun e => blk_ne h hB (by decide) e.symm)
  have HI0 := Lib.hid h
  have HB0 := Lib.hid hB
  have HC0 := Lib.hid (Chg.refl (fun i => i = g ∨ i = bp) w)
  have HSS := Lib.hid hs
  clear h hB hs
  go_enter Tryz.func52, Tryz.ntmps52
  obtain ⟨n0, n1, n2, n3, n4, n5, n6, n7, n8, n9, n10, n11, n12, n13⟩ := ncell HB0.out
  go_upto_region 1 with (first | (go_at_call 49; (with_reducible refine (wt_in HI0.out).mono ?_); rintro e w1 hp; obtain ⟨x1, s1, e1, rfl, hx, hi, hc, hE⟩ := hp; have HV1 := Lib.hid hx; clear hx; have fz := blk_frozen (hc.blk HB0.out HNB.out) 3; have cz := ncell (hc.blk HB0.out HNB.out); have HI1 := Lib.hid (hi.setc bp 3 (.string x1) (fun e => HNB.out e.symm)); have HB1 := Lib.hid (blk_put (hc.blk HB0.out HNB.out) 3 (.string x1) rfl); have HC1 := Lib.hid (chg_both HC0.out hc 3 (.string x1)); have HE1 := Lib.hid (hE); obtain ⟨m0, m1, m2, m3, m4, m5, m6, m7, m8, m9, m10, m11, m12, m13⟩ := cz; clear hi hc hE))
  clear HI0 HB0 HC0 fz m0 m1 m2 m3 m4 m5 m6 m7 m8 m9 m10 m11 m12 m13 n0 n1 n2 n3 n4 n5 n6 n7 n8 n9 n10 n11 n12 n13
  generalize (w1.setCell ⟨bp, 3, none⟩ (.string x1)) = W1 at HI1 HB1 HC1 ⊢
  obtain ⟨n0, n1, n2, n3, n4, n5, n6, n7, n8, n9, n10, n11, n12, n13⟩ := ncell HB1.out
  have HTK := Lib.hid (take0_calls HI1.out (show e1 = 0 → s1.size ≤ 100000 from fun h => by have h1 := HE1.out h; have h2 := HSS.out h1.1; omega) 1 true)
  go_upto_region 3 with (first | (go_at_call 51; (with_reducible refine (HTK.out).mono ?_); rintro e w2 hp; obtain ⟨v, L, s2, e2, rfl, hpo, hok, hi, hc, hE⟩ := hp; have HOK := Lib.hid hok; have HO2 := Lib.hid (hpo.setc bp 5 v (hc.blk HB1.out HNB.out) (by decide)); have fz := blk_frozen (hc.blk HB1.out HNB.out) 5; have cz := ncell (hc.blk HB1.out HNB.out); have HI2 := Lib.hid (hi.setc bp 5 v (fun e => HNB.out e.symm)); have HB2 := Lib.hid (blk_put (hc.blk HB1.out HNB.out) 5 v rfl); have HC2 := Lib.hid (chg_both HC1.out hc 5 v); have HE2 := Lib.hid (HE1.out.trans hE); obtain ⟨A, cc, rfl, hcc, _⟩ := HO2.out.form; clear hpo hok hcc; obtain ⟨m0, m1, m2, m3, m4, m5, m6, m7, m8, m9, m10, m11, m12, m13⟩ := cz; clear hi hc hE))
  clear HI1 HB1 HC1 fz m0 m1 m2 m3 m4 m5 m6 m7 m8 m9 m10 m11 m12 m13 n0 n1 n2 n3 n4 n5 n6 n7 n8 n9 n10 n11 n12 n13
  generalize (w2.setCell ⟨bp, 5, none⟩ (.slice A L.length cc)) = W2 at HI2 HB2 HC2 HO2 ⊢
  obtain ⟨n0, n1, n2, n3, n4, n5, n6, n7, n8, n9, n10, n11, n12, n13⟩ := ncell HB2.out
  go_upto_region 4 with (first | (go_at_call 49; (with_reducible refine (wt_in HI2.out).mono ?_); rintro e w3 hp; obtain ⟨x3, s3, e3, rfl, hx, hi, hc, hE⟩ := hp; have HV3 := Lib.hid hx; clear hx; have HO3 := Lib.hid ((HO2.out.rd HI2.out hc).setc bp 6 (.string x3) (hc.blk HB2.out HNB.out) (by decide)); have fz := blk_frozen (hc.blk HB2.out HNB.out) 6; have cz := ncell (hc.blk HB2.out HNB.out); have HI3 := Lib.hid (hi.setc bp 6 (.string x3) (fun e => HNB.out e.symm)); have HB3 := Lib.hid (blk_put (hc.blk HB2.out HNB.out) 6 (.string x3) rfl); have HC3 := Lib.hid (chg_both HC2.out hc 6 (.string x3)); have HE3 := Lib.hid (HE2.out.trans hE); obtain ⟨m0, m1, m2, m3, m4, m5, m6, m7, m8, m9, m10, m11, m12, m13⟩ := cz; clear hi hc hE))
  clear HI2 HB2 HC2 HO2 fz m0 m1 m2 m3 m4 m5 m6 m7 m8 m9 m10 m11 m12 m13 n0 n1 n2 n3 n4 n5 n6 n7 n8 n9 n10 n11 n12 n13
  generalize (w3.setCell ⟨bp, 6, none⟩ (.string x3)) = W3 at HI3 HB3 HC3 HO3 ⊢
  obtain ⟨n0, n1, n2, n3, n4, n5, n6, n7, n8, n9, n10, n11, n12, n13⟩ := ncell HB3.out
  go_upto_region 5 with (first | (go_at_call 62; (with_reducible refine (dt_in HI3.out).mono ?_); rintro e w4 hp; obtain ⟨x4, s4, e4, rfl, hx, hi, hc, hE⟩ := hp; have HV4 := Lib.hid hx; clear hx; have HO4 := Lib.hid ((HO3.out.rd HI3.out hc).setc bp 7 (.string x4) (hc.blk HB3.out HNB.out) (by decide)); have fz := blk_frozen (hc.blk HB3.out HNB.out) 7; have cz := ncell (hc.blk HB3.out HNB.out); have HI4 := Lib.hid (hi.setc bp 7 (.string x4) (fun e => HNB.out e.symm)); have HB4 := Lib.hid (blk_put (hc.blk HB3.out HNB.out) 7 (.string x4) rfl); have HC4 := Lib.hid (chg_both HC3.out hc 7 (.string x4)); have HE4 := Lib.hid (HE3.out.trans hE); obtain ⟨m0, m1, m2, m3, m4, m5, m6, m7, m8, m9, m10, m11, m12, m13⟩ := cz; clear hi hc hE))
  clear HI3 HB3 HC3 HO3 fz m0 m1 m2 m3 m4 m5 m6 m7 m8 m9 m10 m11 m12 m13 n0 n1 n2 n3 n4 n5 n6 n7 n8 n9 n10 n11 n12 n13
  generalize (w4.setCell ⟨bp, 7, none⟩ (.string x4)) = W4 at HI4 HB4 HC4 HO4 ⊢
  obtain ⟨n0, n1, n2, n3, n4, n5, n6, n7, n8, n9, n10, n11, n12, n13⟩ := ncell HB4.out
  go_wp2_with (fail)
  go_end0
  exact ⟨(⟨x1, L, x3, x4, ⟨#[]⟩, ⟨#[]⟩⟩ : TD), A, cc, s4, e4, rfl, ⟨HV1.out, HOK.out, HV3.out, HV4.out, Nat.zero_le _, Nat.zero_le _⟩, HB4.out, HI4.out, HC4.out, HO4.out, HE4.out.le (by unfold TD.len; simp only [if_true, if_false, Bool.false_eq_true]; omega)⟩
set_option maxHeartbeats 4000000 in
set_option maxRecDepth 1000000 in
theorem parts_101 {w : World} {bp g : Nat} {a0 a1 a2 a8 a9 : Value} {s : ByteArray} {er : Int} (hB : w.heap[bp]? = some (.cells #[a0, a1, a2, .string ⟨#[]⟩, .bool true, .slice none 0 0, .string ⟨#[]⟩, .string ⟨#[]⟩, a8, a9, .bool false, .bool true, .string ⟨#[]⟩, .string ⟨#[]⟩] 85 (0, 0))) (h : IN w g s er) (hs : er = 0 → s.size ≤ 100000) : Calls Tryz.prog 52 #[.pointer (some ⟨bp, 0, none⟩), .pointer (some ⟨g, 0, none⟩)] w (PartsP w bp g a0 a1 a2 a8 a9 true false true s er) := by
  have HNB := Lib.hid (show bp ≠ g from fun e => blk_ne h hB (by decide) e.symm)
  have HI0 := Lib.hid h
  have HB0 := Lib.hid hB
  have HC0 := Lib.hid (Chg.refl (fun i => i = g ∨ i = bp) w)
  have HSS := Lib.hid hs
  clear h hB hs
  go_enter Tryz.func52, Tryz.ntmps52
  obtain ⟨n0, n1, n2, n3, n4, n5, n6, n7, n8, n9, n10, n11, n12, n13⟩ := ncell HB0.out
  go_upto_region 1 with (first | (go_at_call 49; (with_reducible refine (wt_in HI0.out).mono ?_); rintro e w1 hp; obtain ⟨x1, s1, e1, rfl, hx, hi, hc, hE⟩ := hp; have HV1 := Lib.hid hx; clear hx; have fz := blk_frozen (hc.blk HB0.out HNB.out) 3; have cz := ncell (hc.blk HB0.out HNB.out); have HI1 := Lib.hid (hi.setc bp 3 (.string x1) (fun e => HNB.out e.symm)); have HB1 := Lib.hid (blk_put (hc.blk HB0.out HNB.out) 3 (.string x1) rfl); have HC1 := Lib.hid (chg_both HC0.out hc 3 (.string x1)); have HE1 := Lib.hid (hE); obtain ⟨m0, m1, m2, m3, m4, m5, m6, m7, m8, m9, m10, m11, m12, m13⟩ := cz; clear hi hc hE))
  clear HI0 HB0 HC0 fz m0 m1 m2 m3 m4 m5 m6 m7 m8 m9 m10 m11 m12 m13 n0 n1 n2 n3 n4 n5 n6 n7 n8 n9 n10 n11 n12 n13
  generalize (w1.setCell ⟨bp, 3, none⟩ (.string x1)) = W1 at HI1 HB1 HC1 ⊢
  obtain ⟨n0, n1, n2, n3, n4, n5, n6, n7, n8, n9, n10, n11, n12, n13⟩ := ncell HB1.out
  have HTK := Lib.hid (take0_calls HI1.out (show e1 = 0 → s1.size ≤ 100000 from fun h => by have h1 := HE1.out h; have h2 := HSS.out h1.1; omega) 1 true)
  go_upto_region 3 with (first | (go_at_call 51; (with_reducible refine (HTK.out).mono ?_); rintro e w2 hp; obtain ⟨v, L, s2, e2, rfl, hpo, hok, hi, hc, hE⟩ := hp; have HOK := Lib.hid hok; have HO2 := Lib.hid (hpo.setc bp 5 v (hc.blk HB1.out HNB.out) (by decide)); have fz := blk_frozen (hc.blk HB1.out HNB.out) 5; have cz := ncell (hc.blk HB1.out HNB.out); have HI2 := Lib.hid (hi.setc bp 5 v (fun e => HNB.out e.symm)); have HB2 := Lib.hid (blk_put (hc.blk HB1.out HNB.out) 5 v rfl); have HC2 := Lib.hid (chg_both HC1.out hc 5 v); have HE2 := Lib.hid (HE1.out.trans hE); obtain ⟨A, cc, rfl, hcc, _⟩ := HO2.out.form; clear hpo hok hcc; obtain ⟨m0, m1, m2, m3, m4, m5, m6, m7, m8, m9, m10, m11, m12, m13⟩ := cz; clear hi hc hE))
  clear HI1 HB1 HC1 fz m0 m1 m2 m3 m4 m5 m6 m7 m8 m9 m10 m11 m12 m13 n0 n1 n2 n3 n4 n5 n6 n7 n8 n9 n10 n11 n12 n13
  generalize (w2.setCell ⟨bp, 5, none⟩ (.slice A L.length cc)) = W2 at HI2 HB2 HC2 HO2 ⊢
  obtain ⟨n0, n1, n2, n3, n4, n5, n6, n7, n8, n9, n10, n11, n12, n13⟩ := ncell HB2.out
  go_upto_region 4 with (first | (go_at_call 49; (with_reducible refine (wt_in HI2.out).mono ?_); rintro e w3 hp; obtain ⟨x3, s3, e3, rfl, hx, hi, hc, hE⟩ := hp; have HV3 := Lib.hid hx; clear hx; have HO3 := Lib.hid ((HO2.out.rd HI2.out hc).setc bp 6 (.string x3) (hc.blk HB2.out HNB.out) (by decide)); have fz := blk_frozen (hc.blk HB2.out HNB.out) 6; have cz := ncell (hc.blk HB2.out HNB.out); have HI3 := Lib.hid (hi.setc bp 6 (.string x3) (fun e => HNB.out e.symm)); have HB3 := Lib.hid (blk_put (hc.blk HB2.out HNB.out) 6 (.string x3) rfl); have HC3 := Lib.hid (chg_both HC2.out hc 6 (.string x3)); have HE3 := Lib.hid (HE2.out.trans hE); obtain ⟨m0, m1, m2, m3, m4, m5, m6, m7, m8, m9, m10, m11, m12, m13⟩ := cz; clear hi hc hE))
  clear HI2 HB2 HC2 HO2 fz m0 m1 m2 m3 m4 m5 m6 m7 m8 m9 m10 m11 m12 m13 n0 n1 n2 n3 n4 n5 n6 n7 n8 n9 n10 n11 n12 n13
  generalize (w3.setCell ⟨bp, 6, none⟩ (.string x3)) = W3 at HI3 HB3 HC3 HO3 ⊢
  obtain ⟨n0, n1, n2, n3, n4, n5, n6, n7, n8, n9, n10, n11, n12, n13⟩ := ncell HB3.out
  go_upto_region 5 with (first | (go_at_call 62; (with_reducible refine (dt_in HI3.out).mono ?_); rintro e w4 hp; obtain ⟨x4, s4, e4, rfl, hx, hi, hc, hE⟩ := hp; have HV4 := Lib.hid hx; clear hx; have HO4 := Lib.hid ((HO3.out.rd HI3.out hc).setc bp 7 (.string x4) (hc.blk HB3.out HNB.out) (by decide)); have fz := blk_frozen (hc.blk HB3.out HNB.out) 7; have cz := ncell (hc.blk HB3.out HNB.out); have HI4 := Lib.hid (hi.setc bp 7 (.string x4) (fun e => HNB.out e.symm)); have HB4 := Lib.hid (blk_put (hc.blk HB3.out HNB.out) 7 (.string x4) rfl); have HC4 := Lib.hid (chg_both HC3.out hc 7 (.string x4)); have HE4 := Lib.hid (HE3.out.trans hE); obtain ⟨m0, m1, m2, m3, m4, m5, m6, m7, m8, m9, m10, m11, m12, m13⟩ := cz; clear hi hc hE))
  clear HI3 HB3 HC3 HO3 fz m0 m1 m2 m3 m4 m5 m6 m7 m8 m9 m10 m11 m12 m13 n0 n1 n2 n3 n4 n5 n6 n7 n8 n9 n10 n11 n12 n13
  generalize (w4.setCell ⟨bp, 7, none⟩ (.string x4)) = W4 at HI4 HB4 HC4 HO4 ⊢
  obtain ⟨n0, n1, n2, n3, n4, n5, n6, n7, n8, n9, n10, n11, n12, n13⟩ := ncell HB4.out
  go_wp2_with (first | (go_at_call 62; (with_reducible refine (dt_in HI4.out).mono ?_); rintro e w5 hp; obtain ⟨x5, s5, e5, rfl, hx, hi, hc, hE⟩ := hp; have HV5 := Lib.hid hx; clear hx; have HO5 := Lib.hid ((HO4.out.rd HI4.out hc).setc bp 13 (.string x5) (hc.blk HB4.out HNB.out) (by decide)); have fz := blk_frozen (hc.blk HB4.out HNB.out) 13; have cz := ncell (hc.blk HB4.out HNB.out); have HI5 := Lib.hid (hi.setc bp 13 (.string x5) (fun e => HNB.out e.symm)); have HB5 := Lib.hid (blk_put (hc.blk HB4.out HNB.out) 13 (.string x5) rfl); have HC5 := Lib.hid (chg_both HC4.out hc 13 (.string x5)); have HE5 := Lib.hid (HE4.out.trans hE); obtain ⟨m0, m1, m2, m3, m4, m5, m6, m7, m8, m9, m10, m11, m12, m13⟩ := cz; clear hi hc hE))
  go_end0
  exact ⟨(⟨x1, L, x3, x4, ⟨#[]⟩, x5⟩ : TD), A, cc, s5, e5, rfl, ⟨HV1.out, HOK.out, HV3.out, HV4.out, Nat.zero_le _, HV5.out⟩, HB5.out, HI5.out, HC5.out, HO5.out, HE5.out.le (by unfold TD.len; simp only [if_true, if_false, Bool.false_eq_true]; omega)⟩
set_option maxHeartbeats 4000000 in
set_option maxRecDepth 1000000 in
theorem parts_110 {w : World} {bp g : Nat} {a0 a1 a2 a8 a9 : Value} {s : ByteArray} {er : Int} (hB : w.heap[bp]? = some (.cells #[a0, a1, a2, .string ⟨#[]⟩, .bool true, .slice none 0 0, .string ⟨#[]⟩, .string ⟨#[]⟩, a8, a9, .bool true, .bool false, .string ⟨#[]⟩, .string ⟨#[]⟩] 85 (0, 0))) (h : IN w g s er) (hs : er = 0 → s.size ≤ 100000) : Calls Tryz.prog 52 #[.pointer (some ⟨bp, 0, none⟩), .pointer (some ⟨g, 0, none⟩)] w (PartsP w bp g a0 a1 a2 a8 a9 true true false s er) := by
  have HNB := Lib.hid (show bp ≠ g from fun e => blk_ne h hB (by decide) e.symm)
  have HI0 := Lib.hid h
  have HB0 := Lib.hid hB
  have HC0 := Lib.hid (Chg.refl (fun i => i = g ∨ i = bp) w)
  have HSS := Lib.hid hs
  clear h hB hs
  go_enter Tryz.func52, Tryz.ntmps52
  obtain ⟨n0, n1, n2, n3, n4, n5, n6, n7, n8, n9, n10, n11, n12, n13⟩ := ncell HB0.out
  go_upto_region 1 with (first | (go_at_call 49; (with_reducible refine (wt_in HI0.out).mono ?_); rintro e w1 hp; obtain ⟨x1, s1, e1, rfl, hx, hi, hc, hE⟩ := hp; have HV1 := Lib.hid hx; clear hx; have fz := blk_frozen (hc.blk HB0.out HNB.out) 3; have cz := ncell (hc.blk HB0.out HNB.out); have HI1 := Lib.hid (hi.setc bp 3 (.string x1) (fun e => HNB.out e.symm)); have HB1 := Lib.hid (blk_put (hc.blk HB0.out HNB.out) 3 (.string x1) rfl); have HC1 := Lib.hid (chg_both HC0.out hc 3 (.string x1)); have HE1 := Lib.hid (hE); obtain ⟨m0, m1, m2, m3, m4, m5, m6, m7, m8, m9, m10, m11, m12, m13⟩ := cz; clear hi hc hE))
  clear HI0 HB0 HC0 fz m0 m1 m2 m3 m4 m5 m6 m7 m8 m9 m10 m11 m12 m13 n0 n1 n2 n3 n4 n5 n6 n7 n8 n9 n10 n11 n12 n13
  generalize (w1.setCell ⟨bp, 3, none⟩ (.string x1)) = W1 at HI1 HB1 HC1 ⊢
  obtain ⟨n0, n1, n2, n3, n4, n5, n6, n7, n8, n9, n10, n11, n12, n13⟩ := ncell HB1.out
  have HTK := Lib.hid (take0_calls HI1.out (show e1 = 0 → s1.size ≤ 100000 from fun h => by have h1 := HE1.out h; have h2 := HSS.out h1.1; omega) 1 true)
  go_upto_region 3 with (first | (go_at_call 51; (with_reducible refine (HTK.out).mono ?_); rintro e w2 hp; obtain ⟨v, L, s2, e2, rfl, hpo, hok, hi, hc, hE⟩ := hp; have HOK := Lib.hid hok; have HO2 := Lib.hid (hpo.setc bp 5 v (hc.blk HB1.out HNB.out) (by decide)); have fz := blk_frozen (hc.blk HB1.out HNB.out) 5; have cz := ncell (hc.blk HB1.out HNB.out); have HI2 := Lib.hid (hi.setc bp 5 v (fun e => HNB.out e.symm)); have HB2 := Lib.hid (blk_put (hc.blk HB1.out HNB.out) 5 v rfl); have HC2 := Lib.hid (chg_both HC1.out hc 5 v); have HE2 := Lib.hid (HE1.out.trans hE); obtain ⟨A, cc, rfl, hcc, _⟩ := HO2.out.form; clear hpo hok hcc; obtain ⟨m0, m1, m2, m3, m4, m5, m6, m7, m8, m9, m10, m11, m12, m13⟩ := cz; clear hi hc hE))
  clear HI1 HB1 HC1 fz m0 m1 m2 m3 m4 m5 m6 m7 m8 m9 m10 m11 m12 m13 n0 n1 n2 n3 n4 n5 n6 n7 n8 n9 n10 n11 n12 n13
  generalize (w2.setCell ⟨bp, 5, none⟩ (.slice A L.length cc)) = W2 at HI2 HB2 HC2 HO2 ⊢
  obtain ⟨n0, n1, n2, n3, n4, n5, n6, n7, n8, n9, n10, n11, n12, n13⟩ := ncell HB2.out
  go_upto_region 4 with (first | (go_at_call 49; (with_reducible refine (wt_in HI2.out).mono ?_); rintro e w3 hp; obtain ⟨x3, s3, e3, rfl, hx, hi, hc, hE⟩ := hp; have HV3 := Lib.hid hx; clear hx; have HO3 := Lib.hid ((HO2.out.rd HI2.out hc).setc bp 6 (.string x3) (hc.blk HB2.out HNB.out) (by decide)); have fz := blk_frozen (hc.blk HB2.out HNB.out) 6; have cz := ncell (hc.blk HB2.out HNB.out); have HI3 := Lib.hid (hi.setc bp 6 (.string x3) (fun e => HNB.out e.symm)); have HB3 := Lib.hid (blk_put (hc.blk HB2.out HNB.out) 6 (.string x3) rfl); have HC3 := Lib.hid (chg_both HC2.out hc 6 (.string x3)); have HE3 := Lib.hid (HE2.out.trans hE); obtain ⟨m0, m1, m2, m3, m4, m5, m6, m7, m8, m9, m10, m11, m12, m13⟩ := cz; clear hi hc hE))
  clear HI2 HB2 HC2 HO2 fz m0 m1 m2 m3 m4 m5 m6 m7 m8 m9 m10 m11 m12 m13 n0 n1 n2 n3 n4 n5 n6 n7 n8 n9 n10 n11 n12 n13
  generalize (w3.setCell ⟨bp, 6, none⟩ (.string x3)) = W3 at HI3 HB3 HC3 HO3 ⊢
  obtain ⟨n0, n1, n2, n3, n4, n5, n6, n7, n8, n9, n10, n11, n12, n13⟩ := ncell HB3.out
  go_upto_region 5 with (first | (go_at_call 62; (with_reducible refine (dt_in HI3.out).mono ?_); rintro e w4 hp; obtain ⟨x4, s4, e4, rfl, hx, hi, hc, hE⟩ := hp; have HV4 := Lib.hid hx; clear hx; have HO4 := Lib.hid ((HO3.out.rd HI3.out hc).setc bp 7 (.string x4) (hc.blk HB3.out HNB.out) (by decide)); have fz := blk_frozen (hc.blk HB3.out HNB.out) 7; have cz := ncell (hc.blk HB3.out HNB.out); have HI4 := Lib.hid (hi.setc bp 7 (.string x4) (fun e => HNB.out e.symm)); have HB4 := Lib.hid (blk_put (hc.blk HB3.out HNB.out) 7 (.string x4) rfl); have HC4 := Lib.hid (chg_both HC3.out hc 7 (.string x4)); have HE4 := Lib.hid (HE3.out.trans hE); obtain ⟨m0, m1, m2, m3, m4, m5, m6, m7, m8, m9, m10, m11, m12, m13⟩ := cz; clear hi hc hE))
  clear HI3 HB3 HC3 HO3 fz m0 m1 m2 m3 m4 m5 m6 m7 m8 m9 m10 m11 m12 m13 n0 n1 n2 n3 n4 n5 n6 n7 n8 n9 n10 n11 n12 n13
  generalize (w4.setCell ⟨bp, 7, none⟩ (.string x4)) = W4 at HI4 HB4 HC4 HO4 ⊢
  obtain ⟨n0, n1, n2, n3, n4, n5, n6, n7, n8, n9, n10, n11, n12, n13⟩ := ncell HB4.out
  go_upto_region 7 with (first | (go_at_call 49; (with_reducible refine (wt_in HI4.out).mono ?_); rintro e w5 hp; obtain ⟨x5, s5, e5, rfl, hx, hi, hc, hE⟩ := hp; have HV5 := Lib.hid hx; clear hx; have HO5 := Lib.hid ((HO4.out.rd HI4.out hc).setc bp 12 (.string x5) (hc.blk HB4.out HNB.out) (by decide)); have fz := blk_frozen (hc.blk HB4.out HNB.out) 12; have cz := ncell (hc.blk HB4.out HNB.out); have HI5 := Lib.hid (hi.setc bp 12 (.string x5) (fun e => HNB.out e.symm)); have HB5 := Lib.hid (blk_put (hc.blk HB4.out HNB.out) 12 (.string x5) rfl); have HC5 := Lib.hid (chg_both HC4.out hc 12 (.string x5)); have HE5 := Lib.hid (HE4.out.trans hE); obtain ⟨m0, m1, m2, m3, m4, m5, m6, m7, m8, m9, m10, m11, m12, m13⟩ := cz; clear hi hc hE))
  clear HI4 HB4 HC4 HO4 fz m0 m1 m2 m3 m4 m5 m6 m7 m8 m9 m10 m11 m12 m13 n0 n1 n2 n3 n4 n5 n6 n7 n8 n9 n10 n11 n12 n13
  generalize (w5.setCell ⟨bp, 12, none⟩ (.string x5)) = W5 at HI5 HB5 HC5 HO5 ⊢
  obtain ⟨n0, n1, n2, n3, n4, n5, n6, n7, n8, n9, n10, n11, n12, n13⟩ := ncell HB5.out
  go_wp2_with (fail)
  go_end0
  exact ⟨(⟨x1, L, x3, x4, x5, ⟨#[]⟩⟩ : TD), A, cc, s5, e5, rfl, ⟨HV1.out, HOK.out, HV3.out, HV4.out, HV5.out, Nat.zero_le _⟩, HB5.out, HI5.out, HC5.out, HO5.out, HE5.out.le (by unfold TD.len; simp only [if_true, if_false, Bool.false_eq_true]; omega)⟩
set_option maxHeartbeats 4000000 in
set_option maxRecDepth 1000000 in
theorem parts_111 {w : World} {bp g : Nat} {a0 a1 a2 a8 a9 : Value} {s : ByteArray} {er : Int} (hB : w.heap[bp]? = some (.cells #[a0, a1, a2, .string ⟨#[]⟩, .bool true, .slice none 0 0, .string ⟨#[]⟩, .string ⟨#[]⟩, a8, a9, .bool true, .bool true, .string ⟨#[]⟩, .string ⟨#[]⟩] 85 (0, 0))) (h : IN w g s er) (hs : er = 0 → s.size ≤ 100000) : Calls Tryz.prog 52 #[.pointer (some ⟨bp, 0, none⟩), .pointer (some ⟨g, 0, none⟩)] w (PartsP w bp g a0 a1 a2 a8 a9 true true true s er) := by
  have HNB := Lib.hid (show bp ≠ g from fun e => blk_ne h hB (by decide) e.symm)
  have HI0 := Lib.hid h
  have HB0 := Lib.hid hB
  have HC0 := Lib.hid (Chg.refl (fun i => i = g ∨ i = bp) w)
  have HSS := Lib.hid hs
  clear h hB hs
  go_enter Tryz.func52, Tryz.ntmps52
  obtain ⟨n0, n1, n2, n3, n4, n5, n6, n7, n8, n9, n10, n11, n12, n13⟩ := ncell HB0.out
  go_upto_region 1 with (first | (go_at_call 49; (with_reducible refine (wt_in HI0.out).mono ?_); rintro e w1 hp; obtain ⟨x1, s1, e1, rfl, hx, hi, hc, hE⟩ := hp; have HV1 := Lib.hid hx; clear hx; have fz := blk_frozen (hc.blk HB0.out HNB.out) 3; have cz := ncell (hc.blk HB0.out HNB.out); have HI1 := Lib.hid (hi.setc bp 3 (.string x1) (fun e => HNB.out e.symm)); have HB1 := Lib.hid (blk_put (hc.blk HB0.out HNB.out) 3 (.string x1) rfl); have HC1 := Lib.hid (chg_both HC0.out hc 3 (.string x1)); have HE1 := Lib.hid (hE); obtain ⟨m0, m1, m2, m3, m4, m5, m6, m7, m8, m9, m10, m11, m12, m13⟩ := cz; clear hi hc hE))
  clear HI0 HB0 HC0 fz m0 m1 m2 m3 m4 m5 m6 m7 m8 m9 m10 m11 m12 m13 n0 n1 n2 n3 n4 n5 n6 n7 n8 n9 n10 n11 n12 n13
  generalize (w1.setCell ⟨bp, 3, none⟩ (.string x1)) = W1 at HI1 HB1 HC1 ⊢
  obtain ⟨n0, n1, n2, n3, n4, n5, n6, n7, n8, n9, n10, n11, n12, n13⟩ := ncell HB1.out
  have HTK := Lib.hid (take0_calls HI1.out (show e1 = 0 → s1.size ≤ 100000 from fun h => by have h1 := HE1.out h; have h2 := HSS.out h1.1; omega) 1 true)
  go_upto_region 3 with (first | (go_at_call 51; (with_reducible refine (HTK.out).mono ?_); rintro e w2 hp; obtain ⟨v, L, s2, e2, rfl, hpo, hok, hi, hc, hE⟩ := hp; have HOK := Lib.hid hok; have HO2 := Lib.hid (hpo.setc bp 5 v (hc.blk HB1.out HNB.out) (by decide)); have fz := blk_frozen (hc.blk HB1.out HNB.out) 5; have cz := ncell (hc.blk HB1.out HNB.out); have HI2 := Lib.hid (hi.setc bp 5 v (fun e => HNB.out e.symm)); have HB2 := Lib.hid (blk_put (hc.blk HB1.out HNB.out) 5 v rfl); have HC2 := Lib.hid (chg_both HC1.out hc 5 v); have HE2 := Lib.hid (HE1.out.trans hE); obtain ⟨A, cc, rfl, hcc, _⟩ := HO2.out.form; clear hpo hok hcc; obtain ⟨m0, m1, m2, m3, m4, m5, m6, m7, m8, m9, m10, m11, m12, m13⟩ := cz; clear hi hc hE))
  clear HI1 HB1 HC1 fz m0 m1 m2 m3 m4 m5 m6 m7 m8 m9 m10 m11 m12 m13 n0 n1 n2 n3 n4 n5 n6 n7 n8 n9 n10 n11 n12 n13
  generalize (w2.setCell ⟨bp, 5, none⟩ (.slice A L.length cc)) = W2 at HI2 HB2 HC2 HO2 ⊢
  obtain ⟨n0, n1, n2, n3, n4, n5, n6, n7, n8, n9, n10, n11, n12, n13⟩ := ncell HB2.out
  go_upto_region 4 with (first | (go_at_call 49; (with_reducible refine (wt_in HI2.out).mono ?_); rintro e w3 hp; obtain ⟨x3, s3, e3, rfl, hx, hi, hc, hE⟩ := hp; have HV3 := Lib.hid hx; clear hx; have HO3 := Lib.hid ((HO2.out.rd HI2.out hc).setc bp 6 (.string x3) (hc.blk HB2.out HNB.out) (by decide)); have fz := blk_frozen (hc.blk HB2.out HNB.out) 6; have cz := ncell (hc.blk HB2.out HNB.out); have HI3 := Lib.hid (hi.setc bp 6 (.string x3) (fun e => HNB.out e.symm)); have HB3 := Lib.hid (blk_put (hc.blk HB2.out HNB.out) 6 (.string x3) rfl); have HC3 := Lib.hid (chg_both HC2.out hc 6 (.string x3)); have HE3 := Lib.hid (HE2.out.trans hE); obtain ⟨m0, m1, m2, m3, m4, m5, m6, m7, m8, m9, m10, m11, m12, m13⟩ := cz; clear hi hc hE))
  clear HI2 HB2 HC2 HO2 fz m0 m1 m2 m3 m4 m5 m6 m7 m8 m9 m10 m11 m12 m13 n0 n1 n2 n3 n4 n5 n6 n7 n8 n9 n10 n11 n12 n13
  generalize (w3.setCell ⟨bp, 6, none⟩ (.string x3)) = W3 at HI3 HB3 HC3 HO3 ⊢
  obtain ⟨n0, n1, n2, n3, n4, n5, n6, n7, n8, n9, n10, n11, n12, n13⟩ := ncell HB3.out
  go_upto_region 5 with (first | (go_at_call 62; (with_reducible refine (dt_in HI3.out).mono ?_); rintro e w4 hp; obtain ⟨x4, s4, e4, rfl, hx, hi, hc, hE⟩ := hp; have HV4 := Lib.hid hx; clear hx; have HO4 := Lib.hid ((HO3.out.rd HI3.out hc).setc bp 7 (.string x4) (hc.blk HB3.out HNB.out) (by decide)); have fz := blk_frozen (hc.blk HB3.out HNB.out) 7; have cz := ncell (hc.blk HB3.out HNB.out); have HI4 := Lib.hid (hi.setc bp 7 (.string x4) (fun e => HNB.out e.symm)); have HB4 := Lib.hid (blk_put (hc.blk HB3.out HNB.out) 7 (.string x4) rfl); have HC4 := Lib.hid (chg_both HC3.out hc 7 (.string x4)); have HE4 := Lib.hid (HE3.out.trans hE); obtain ⟨m0, m1, m2, m3, m4, m5, m6, m7, m8, m9, m10, m11, m12, m13⟩ := cz; clear hi hc hE))
  clear HI3 HB3 HC3 HO3 fz m0 m1 m2 m3 m4 m5 m6 m7 m8 m9 m10 m11 m12 m13 n0 n1 n2 n3 n4 n5 n6 n7 n8 n9 n10 n11 n12 n13
  generalize (w4.setCell ⟨bp, 7, none⟩ (.string x4)) = W4 at HI4 HB4 HC4 HO4 ⊢
  obtain ⟨n0, n1, n2, n3, n4, n5, n6, n7, n8, n9, n10, n11, n12, n13⟩ := ncell HB4.out
  go_upto_region 7 with (first | (go_at_call 49; (with_reducible refine (wt_in HI4.out).mono ?_); rintro e w5 hp; obtain ⟨x5, s5, e5, rfl, hx, hi, hc, hE⟩ := hp; have HV5 := Lib.hid hx; clear hx; have HO5 := Lib.hid ((HO4.out.rd HI4.out hc).setc bp 12 (.string x5) (hc.blk HB4.out HNB.out) (by decide)); have fz := blk_frozen (hc.blk HB4.out HNB.out) 12; have cz := ncell (hc.blk HB4.out HNB.out); have HI5 := Lib.hid (hi.setc bp 12 (.string x5) (fun e => HNB.out e.symm)); have HB5 := Lib.hid (blk_put (hc.blk HB4.out HNB.out) 12 (.string x5) rfl); have HC5 := Lib.hid (chg_both HC4.out hc 12 (.string x5)); have HE5 := Lib.hid (HE4.out.trans hE); obtain ⟨m0, m1, m2, m3, m4, m5, m6, m7, m8, m9, m10, m11, m12, m13⟩ := cz; clear hi hc hE))
  clear HI4 HB4 HC4 HO4 fz m0 m1 m2 m3 m4 m5 m6 m7 m8 m9 m10 m11 m12 m13 n0 n1 n2 n3 n4 n5 n6 n7 n8 n9 n10 n11 n12 n13
  generalize (w5.setCell ⟨bp, 12, none⟩ (.string x5)) = W5 at HI5 HB5 HC5 HO5 ⊢
  obtain ⟨n0, n1, n2, n3, n4, n5, n6, n7, n8, n9, n10, n11, n12, n13⟩ := ncell HB5.out
  go_wp2_with (first | (go_at_call 62; (with_reducible refine (dt_in HI5.out).mono ?_); rintro e w6 hp; obtain ⟨x6, s6, e6, rfl, hx, hi, hc, hE⟩ := hp; have HV6 := Lib.hid hx; clear hx; have HO6 := Lib.hid ((HO5.out.rd HI5.out hc).setc bp 13 (.string x6) (hc.blk HB5.out HNB.out) (by decide)); have fz := blk_frozen (hc.blk HB5.out HNB.out) 13; have cz := ncell (hc.blk HB5.out HNB.out); have HI6 := Lib.hid (hi.setc bp 13 (.string x6) (fun e => HNB.out e.symm)); have HB6 := Lib.hid (blk_put (hc.blk HB5.out HNB.out) 13 (.string x6) rfl); have HC6 := Lib.hid (chg_both HC5.out hc 13 (.string x6)); have HE6 := Lib.hid (HE5.out.trans hE); obtain ⟨m0, m1, m2, m3, m4, m5, m6, m7, m8, m9, m10, m11, m12, m13⟩ := cz; clear hi hc hE))
  go_end0
  exact ⟨(⟨x1, L, x3, x4, x5, x6⟩ : TD), A, cc, s6, e6, rfl, ⟨HV1.out, HOK.out, HV3.out, HV4.out, HV5.out, HV6.out⟩, HB6.out, HI6.out, HC6.out, HO6.out, HE6.out.le (by unfold TD.len; simp only [if_true, if_false, Bool.false_eq_true]; omega)⟩
theorem parts_calls {w : World} {bp g : Nat} {a0 a1 a2 a8 a9 : Value} (hw hu hp : Bool) {s : ByteArray} {er : Int} (hB : w.heap[bp]? = some (.cells #[a0, a1, a2, .string ⟨#[]⟩, .bool hw, .slice none 0 0, .string ⟨#[]⟩, .string ⟨#[]⟩, a8, a9, .bool hu, .bool hp, .string ⟨#[]⟩, .string ⟨#[]⟩] 85 (0, 0))) (h : IN w g s er) (hs : er = 0 → s.size ≤ 100000) : Calls Tryz.prog 52 #[.pointer (some ⟨bp, 0, none⟩), .pointer (some ⟨g, 0, none⟩)] w (PartsP w bp g a0 a1 a2 a8 a9 hw hu hp s er) := by
  cases hw <;> cases hu <;> cases hp
  · exact parts_000 hB h hs
  · exact parts_001 hB h hs
  · exact parts_010 hB h hs
  · exact parts_011 hB h hs
  · exact parts_100 hB h hs
  · exact parts_101 hB h hs
  · exact parts_110 hB h hs
  · exact parts_111 hB h hs
end Go.Proofs.YtljbchghbpmghaaGreatDoor

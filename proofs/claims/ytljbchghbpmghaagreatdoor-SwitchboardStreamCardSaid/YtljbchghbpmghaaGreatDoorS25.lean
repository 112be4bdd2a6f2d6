/- The text of a subscribe. -/
import Derived.Test.YtljbchghbpmghaaGreatDoorS24
namespace Go.Proofs.YtljbchghbpmghaaGreatDoor
open Go.RowKit Go.Lib Go.Proofs.YtljbchghbpmghaaGreatDoorW.PrintWords Go.Proofs.YtljbchghbpmghaaGreatDoor.PSwitchboardGreat
set_option linter.unusedVariables false
set_option linter.unusedSimpArgs false
/-- A subscription. -/
structure SB where
  f : ByteArray
  q : Nat
  nl : Bool
  ap : Bool
  h : Nat
structure SB.Ok (x : SB) : Prop where
  f : x.f.size ≤ 65535
  q : x.q < 4
  h : x.h < 4
def k155 : Kd SB := Kd.iso (Kd.pair Kd.string (Kd.pair (Kd.int .u8) (Kd.pair Kd.bool (Kd.pair Kd.bool (Kd.int .u8))))) (fun x : SB => (x.f, (x.q : Int), x.nl, x.ap, (x.h : Int)))
theorem k155_open {w : World} {x : SB} {cs : List Value} (h : k155.K w x cs) : cs = [.string x.f, .int .u8 (x.q : Nat), .bool x.nl, .bool x.ap, .int .u8 (x.h : Nat)] := by
  obtain ⟨_, _, rfl, rfl, ⟨_, _, rfl, rfl, ⟨_, _, rfl, rfl, ⟨_, _, rfl, rfl, rfl⟩⟩⟩⟩ := h
  exact rfl
theorem k155_mk (w : World) (x : SB) : k155.K w x [.string x.f, .int .u8 (x.q : Nat), .bool x.nl, .bool x.ap, .int .u8 (x.h : Nat)] := ⟨[.string x.f], [.int .u8 (x.q : Nat), .bool x.nl, .bool x.ap, .int .u8 (x.h : Nat)], rfl, rfl, ⟨[.int .u8 (x.q : Nat)], [.bool x.nl, .bool x.ap, .int .u8 (x.h : Nat)], rfl, rfl, ⟨[.bool x.nl], [.bool x.ap, .int .u8 (x.h : Nat)], rfl, rfl, ⟨[.bool x.ap], [.int .u8 (x.h : Nat)], rfl, rfl, rfl⟩⟩⟩⟩
def SL (w : World) (A : Option Addr) (l : List SB) : Prop := Kd.C k155 w A l.length l
theorem SL.to {w w1 : World} {A : Option Addr} {l : List SB} (h : SL w A l) (hb : Below w.heap.size w w1) : SL w1 A l := Kd.C_below h hb
theorem SL.at {w : World} {A : Option Addr} {l : List SB} (h : SL w A l) (j : Nat) (hj : j < l.length) : ∃ ad, A = some ad ∧ w.cell? (ad.add (j * 5)) = some (.string l[j].f) ∧ w.cell? ⟨(ad.add (j * 5)).block, (ad.add (j * 5)).off + 1, none⟩ = some (.int .u8 (l[j].q : Nat)) ∧ w.cell? ⟨(ad.add (j * 5)).block, (ad.add (j * 5)).off + 2, none⟩ = some (.bool l[j].nl) ∧ w.cell? ⟨(ad.add (j * 5)).block, (ad.add (j * 5)).off + 3, none⟩ = some (.bool l[j].ap) ∧ w.cell? ⟨(ad.add (j * 5)).block, (ad.add (j * 5)).off + 4, none⟩ = some (.int .u8 (l[j].h : Nat)) := by
  obtain ⟨ad, c, e, _, hK, hc0⟩ := Kd.C_get h ⟨⟨#[]⟩, 0, false, false, 0⟩ (j : Int) (by omega) (by omega)
  have h3 : l.getD (j : Int).toNat ⟨⟨#[]⟩, 0, false, false, 0⟩ = l[j] := by simp [List.getD_eq_getElem?_getD, List.getElem?_eq_getElem hj]
  rw [h3] at hK
  obtain rfl := k155_open hK
  have hc : ∀ i u, ([.string l[j].f, .int .u8 (l[j].q : Nat), .bool l[j].nl, .bool l[j].ap, .int .u8 (l[j].h : Nat)] : List Value)[i]? = some u → w.cell? (ad.add (j * 5 + i)) = some u := hc0
  exact ⟨ad, e, hc 0 _ rfl, by rw [← add_field _ _ 1 (by omega)]; exact hc 1 _ rfl, by rw [← add_field _ _ 2 (by omega)]; exact hc 2 _ rfl, by rw [← add_field _ _ 3 (by omega)]; exact hc 3 _ rfl, by rw [← add_field _ _ 4 (by omega)]; exact hc 4 _ rfl⟩
def subB (x : SB) : List UInt8 := dat x.f ++ [UInt8.ofNat (opU x.q x.nl x.ap x.h)]
def subsB (l : List SB) : List UInt8 := l.flatMap subB
theorem subsB_snoc (l : List SB) (k : Nat) (hk : k < l.length) : subsB (l.take (k + 1)) = subsB (l.take k) ++ subB l[k] := by
  unfold subsB
  rw [List.take_succ_eq_append_getElem hk, List.flatMap_append]
  simp
theorem subsB_take (l : List SB) (k : Nat) : (subsB (l.take k)).length ≤ (subsB l).length := by
  have h : subsB l = subsB (l.take k) ++ subsB (l.drop k) := by
    unfold subsB
    rw [← List.flatMap_append, List.take_append_drop]
  rw [h, List.length_append]
  omega
set_option maxHeartbeats 4000000 in
set_option maxRecDepth 1000000 in
theorem sutext_calls {w : World} {id c c2 : Nat} {A A2 : Option Addr} {L : List PR} {fs : List SB} (hid : id ≤ 4294967295) (hlk : LOk L) (hc : L.length ≤ c) (hL : PL w A L) (hF : SL w A2 fs) (hfs : ∀ x ∈ fs, x.Ok) (hln : (subsB fs).length ≤ 100000) (hn : fs.length ≤ 100000) : Calls Tryz.prog 121 #[.agg #[.int .u32 (id : Nat), .slice A L.length c, .slice A2 fs.length c2]] w fun e w' => e = .returned (.string (toB ((([] ++ be2 (id % 65536)) ++ putB L) ++ subsB fs))) ∧ Below w.heap.size w w' := by
  have HHD := Lib.hid (fun W (hb : Below w.heap.size w W) => head_calls (w := W) hid hlk hc (hL.to hb))
  have HFL := Lib.hid hF
  have HFS := Lib.hid hfs
  have HLN := Lib.hid hln
  have HN := Lib.hid hn
  have HPUT := Lib.hid (show ((([] : List UInt8) ++ be2 (id % 65536)) ++ putB L).length ≤ 200000 by
    have := putB_len L hlk.sz
    rw [List.length_append]
    show 2 + _ ≤ 200000
    omega)
  have HX := Lib.hid (heap_alloc_new w (.cells #[.int .u32 (id : Nat), .slice A L.length c, .slice A2 fs.length c2] 124))
  have HB := Lib.hid (show Below w.heap.size w (w.alloc (.cells #[.int .u32 (id : Nat), .slice A L.length c, .slice A2 fs.length c2] 124)) from (Below.refl _ _).alloc (Nat.le_refl _) _)
  clear hid hlk hc hL hF hfs hln hn
  go_enter Tryz.func121, Tryz.ntmps121
  go_upto_region 1 with (fail)
  generalize (w.alloc (.cells #[.int .u32 (id : Nat), .slice A L.length c, .slice A2 fs.length c2] 124)) = W0 at HX HB ⊢
  obtain ⟨x0, x1, x2⟩ := frcell HX.out
  obtain ⟨N, hN⟩ : ∃ N, N = W0.heap.size := ⟨_, rfl⟩
  have HLT := Lib.hid (show w.heap.size < N from hN ▸ blk_lt HX.out)
  have HNE := Lib.hid hN
  clear hN
  go_upto_region 3 with (first
    | (go_at_call 123; (with_reducible refine (HHD.out _ HB.out).mono ?_); rintro e w1 ⟨b, rfl, hbb, ho, hb⟩; have HO1 := Lib.hid (show OW w1 b (fun k => N ≤ k) _ from HNE.out ▸ ho); have HX1 := Lib.hid (blk_below HX.out hb); have HB1 := Lib.hid (HB.out.trans (hb.mono HB.out.size)); have HBS := Lib.hid (show N ≤ w1.heap.size from HNE.out ▸ hb.size); have HBB := Lib.hid (show N ≤ b from HNE.out ▸ hbb); obtain ⟨y0, y1, y2⟩ := frcell HX1.out; clear hb ho hbb))
  clear x0 x1 x2 y0 y1 y2 HX HB
  obtain ⟨HEAD, hhd⟩ : ∃ l : List UInt8, l = (([] ++ be2 (id % 65536)) ++ putB L) := ⟨_, rfl⟩
  rw [← hhd] at HPUT HO1
  have HHE := Lib.hid hhd
  clear hhd
  have HO2 := Lib.hid (show OW w1 b (fun k => N ≤ k) (HEAD ++ subsB (fs.take 0)) by
    have h := HO1.out
    rw [List.take_zero]
    show OW w1 b _ (HEAD ++ [])
    rw [List.append_nil]
    exact h)
  clear HO1
  go_loopg [14] fs.length (fun gh v14 wx => ∃ j : Nat, Hid (j + gh = fs.length) ∧ v14 = .int .i64 j ∧ Hid (OW wx b (fun k => N ≤ k) (HEAD ++ subsB (fs.take j))) ∧ Hid (Below w.heap.size w wx) ∧ Hid (N ≤ wx.heap.size))
  case atStart => exact ⟨0, Lib.hid (Nat.zero_add _), rfl, HO2, HB1, HBS⟩
  case round =>
    clear HO2 HB1 HBS
    obtain ⟨j, hj, rfl, HO2, HB1, HBS⟩ := hrel
    cases gk with
    | zero =>
      have hkb := hj.out
      obtain rfl : j = fs.length := by omega
      rw [List.take_length] at HO2
      clear hkb hj
      go_wp2_with (first | (go_at_call 16; (with_reducible refine (text_calls HO2.out).mono ?_); rintro e w3 ⟨rfl, hb⟩; have HB3 := Lib.hid (HB1.out.trans (hb.mono HB1.out.size)); clear hb))
      go_ret
      exact ⟨by rw [HHE.out]; simp, HB3.out⟩
    | succ g1 =>
      have hkb := hj.out
      have hlt2 : j < fs.length := by omega
      have hlt : (j : Int) < (fs.length : Int) := by omega
      have HJ := Lib.hid (show j + g1 + 1 = fs.length by omega)
      obtain ⟨ad, rfl, e0, e1, e2, e3, e4⟩ := (HFL.out.to HB1.out).at j hlt2
      have HSN := Lib.hid (subsB_snoc fs j hlt2)
      have HSZ := Lib.hid (HFS.out fs[j] (List.getElem_mem hlt2))
      have HTK := Lib.hid (show (HEAD ++ subsB (fs.take j)).length ≤ 800000 by
        have h1 := subsB_take fs j
        have h2 := HLN.out
        have h3 := HPUT.out
        rw [List.length_append]
        omega)
      generalize fs[j] = x at HSN HSZ e0 e1 e2 e3 e4
      obtain ⟨f, q, nl, ap, h⟩ := x
      simp only at e0 e1 e2 e3 e4
      have HFZ := Lib.hid (show f.size ≤ 65535 from HSZ.out.f)
      have HOPT := Lib.hid (fun W => options_calls (w := W) (s := f) (q := q) (h := h) (nl := nl) (ap := ap) HSZ.out.q HSZ.out.h)
      have HOL := Lib.hid (opU_lt q nl ap h HSZ.out.q HSZ.out.h)
      have HSB := Lib.hid (show subB ⟨f, q, nl, ap, h⟩ = dat f ++ [UInt8.ofNat (opU q nl ap h)] from rfl)
      clear hkb hj
      go_upto_region 5 with (fail)
      have hba := (Below.refl wr.heap.size wr).alloc (Nat.le_refl _) (.cells #[.string f, .int .u8 (q : Nat), .bool nl, .bool ap, .int .u8 (h : Nat)] 155)
      have HXn := Lib.hid (blk_drew (heap_alloc_new wr (.cells #[.string f, .int .u8 (q : Nat), .bool nl, .bool ap, .int .u8 (h : Nat)] 155)))
      have HOd := Lib.hid ((HO2.out.below hba).drew)
      have HBd := Lib.hid (below_dr (HB1.out.trans (hba.mono HB1.out.size)))
      have HNX := Lib.hid (show wr.heap.size ≠ b by have := HO2.out.lt; omega)
      have HBSd := Lib.hid (show N ≤ (wr.alloc (.cells #[.string f, .int .u8 (q : Nat), .bool nl, .bool ap, .int .u8 (h : Nat)] 155)).drew.heap.size from Nat.le_trans HBS.out hba.size)
      obtain ⟨p0, p1, p2, p3, p4⟩ := rcell (heap_alloc_new wr (.cells #[.string f, .int .u8 (q : Nat), .bool nl, .bool ap, .int .u8 (h : Nat)] 155))
      clear hba e0 e1 e2 e3 e4 HO2 HB1 HBS
      generalize (wr.alloc (.cells #[.string f, .int .u8 (q : Nat), .bool nl, .bool ap, .int .u8 (h : Nat)] 155)) = W2 at HXn HOd HBd HBSd p0 p1 p2 p3 p4 ⊢
      generalize wr.heap.size = bx at HXn HNX p0 p1 p2 p3 p4 ⊢
      have HTK9 := Lib.hid (Nat.le_trans HTK.out (show 800000 ≤ 900000 by omega))
      have HTK2 := Lib.hid (show ((HEAD ++ subsB (fs.take j)) ++ dat f).length ≤ 1000000 by rw [List.length_append, dat_size]; have h1 := HTK.out; have h2 := HFZ.out; omega)
      go_region_held3 (fun w' => w'.cell? ⟨bx, 0, none⟩ = some (.string f) ∧ w'.cell? ⟨bx, 1, none⟩ = some (.int .u8 (q : Nat)) ∧ w'.cell? ⟨bx, 2, none⟩ = some (.bool nl) ∧ w'.cell? ⟨bx, 3, none⟩ = some (.bool ap) ∧ w'.cell? ⟨bx, 4, none⟩ = some (.int .u8 (h : Nat))) (first | exact ⟨p0, p1, p2, p3, p4⟩ | exact ⟨q0, q1, q2, q3, q4⟩ | exact ⟨r0, r1, r2, r3, r4⟩ | exact ⟨s0, s1, s2, s3, s4⟩ | go_keep) (first
        | (go_at_call 106; (with_reducible refine (dat_calls HOd.out HBSd.out HTK9.out f HFZ.out).mono ?_); rintro e w2 ⟨rfl, ho, hc1⟩; have HO3 := Lib.hid ho; have HX3 := Lib.hid (Ch5.blk hc1 HXn.out HNX.out (by decide)); have HB3 := Lib.hid (HBd.out.trans (hc1.to_below HBd.out.size (by have h1 := HBB.out; have h2 := HLT.out; omega) (fun k hk => by have h2 := HLT.out; omega))); have HBS3 := Lib.hid (Nat.le_trans HBSd.out hc1.size); obtain ⟨q0, q1, q2, q3, q4⟩ := rcell HX3.out; clear ho hc1)
        | (go_at_call 124; (with_reducible refine (HOPT.out _).mono ?_); rintro e w3 ⟨rfl, hb⟩; have HO4 := Lib.hid (HO3.out.below hb); have HX4 := Lib.hid (blk_below HX3.out hb); have HB4 := Lib.hid (HB3.out.trans (hb.mono HB3.out.size)); have HBS4 := Lib.hid (Nat.le_trans HBS3.out hb.size); obtain ⟨r0, r1, r2, r3, r4⟩ := rcell HX4.out; clear hb)
        | (go_at_call 30; (with_reducible refine (byte_calls HO4.out (fun k hk => Nat.le_trans HBS4.out hk) HTK2.out (opU q nl ap h) HOL.out).mono ?_); rintro e w4 ⟨rfl, ho, hc1⟩; have HO5 := Lib.hid (show OW w4 b (fun k => N ≤ k) (HEAD ++ subsB (fs.take (j + 1))) by rw [HSN.out, HSB.out, ← List.append_assoc, ← List.append_assoc]; exact ho); have HX5 := Lib.hid (Ch5.blk hc1 HX4.out HNX.out (by decide)); have HB5 := Lib.hid (HB4.out.trans (hc1.to_below HB4.out.size (by have h1 := HBB.out; have h2 := HLT.out; omega) (fun k hk => by have h2 := HLT.out; omega))); have HBS5 := Lib.hid (Nat.le_trans HBS4.out hc1.size); obtain ⟨s0, s1, s2, s3, s4⟩ := rcell HX5.out; clear ho hc1))
      go_wp2
      go_roundg g1
      case measure => omega
      case rel => exact ⟨j + 1, Lib.hid (by have := HJ.out; omega), by have hb1 := HJ.out; have hb2 := HN.out; rw [w64n j (by omega)], HO5, HB5, HBS5⟩
end Go.Proofs.YtljbchghbpmghaaGreatDoor

/- connect's text. -/
import Derived.Test.YtljbchghbpmghaaGreatDoorS16
namespace Go.Proofs.YtljbchghbpmghaaGreatDoor
open Go.RowKit Go.Lib Go.Proofs.YtljbchghbpmghaaGreatDoorW.PrintWords Go.Proofs.YtljbchghbpmghaaGreatDoor.PSwitchboardGreat
set_option linter.unusedVariables false
set_option linter.unusedSimpArgs false
def ND.body (d : ND) : List UInt8 := (((((([] ++ dat ⟨#[77, 81, 84, 84]⟩) ++ [UInt8.ofNat 5]) ++ [UInt8.ofNat (flU d.cl d.hw d.hu d.hp d.rt d.q)]) ++ be2 (d.keep % 65536)) ++ putB d.L) ++ dat d.t.id) ++ (if d.hw then putB d.t.WL ++ (dat d.t.wt ++ dat d.t.wp) else []) ++ (if d.hu then dat d.t.us else []) ++ (if d.hp then dat d.t.pa else [])
theorem dat_size (s : ByteArray) : (dat s).length = 2 + s.size := by
  unfold dat
  rw [List.length_append]
  show 2 + s.data.toList.length = _
  rw [← Lib.size_eq]
theorem dat_calls {w : World} {base b : Nat} {l : List UInt8} (h : OW w b (fun k => base ≤ k) l) (hb : base ≤ w.heap.size) (hl : l.length ≤ 900000) (s : ByteArray) (hs : s.size ≤ 65535) : Calls Tryz.prog 106 #[.pointer (some ⟨b, 0, none⟩), .string s] w (OPost w b (fun k => base ≤ k) (l ++ dat s)) := data_calls h hb hl s hs
theorem ND.body_len (d : ND) : d.body.length = d.len := by
  unfold ND.body ND.len TD.len
  have h4 : (⟨#[77, 81, 84, 84]⟩ : ByteArray).size = 4 := rfl
  simp only [List.length_append, dat_size, h4]
  cases d.hw <;> cases d.hu <;> cases d.hp <;> simp [be2, dat_size] <;> omega
set_option maxHeartbeats 4000000 in
set_option maxRecDepth 1000000 in
theorem cotext_calls {w : World} {cl hw hu hp rt : Bool} {kp c c' q : Nat} {A A' : Option Addr} {L : List PR} {d : TD} (hd : (⟨cl, kp, L, hw, q, rt, hu, hp, d⟩ : ND).Ok) (hc : L.length ≤ c) (hL : PL w A L) (hc' : d.WL.length ≤ c') (hL' : PL w A' d.WL) : Calls Tryz.prog 111 #[.agg #[.bool cl, .int .u32 (kp : Nat), .slice A L.length c, .string d.id, .bool hw, .slice A' d.WL.length c', .string d.wt, .string d.wp, .int .u8 (q : Nat), .bool rt, .bool hu, .bool hp, .string d.us, .string d.pa]] w fun e w' => e = .returned (.string (toB (ND.body ⟨cl, kp, L, hw, q, rt, hu, hp, d⟩))) ∧ Below w.heap.size w w' := by
  obtain ⟨hkp, hlk, hq, ⟨hid, hwl, hwt, hwp, hus, hpa⟩⟩ := hd
  simp only at hkp hlk hq
  have HFLC := Lib.hid (fun (W : World) => coflags_calls (w := W) (cl := cl) (hw := hw) (hu := hu) (hp := hp) (rt := rt) (kp := kp) (n := L.length) (c := c) (n' := d.WL.length) (c' := c') (q := q) (A := A) (A' := A') (s3 := d.id) (s6 := d.wt) (s7 := d.wp) (s12 := d.us) (s13 := d.pa) hq)
  have hfl := flU_lt cl hw hu hp rt q hq
  have HBODY := Lib.hid (show ND.body ⟨cl, kp, L, hw, q, rt, hu, hp, d⟩ = (((((([] ++ dat ⟨#[77, 81, 84, 84]⟩) ++ [UInt8.ofNat 5]) ++ [UInt8.ofNat (flU cl hw hu hp rt q)]) ++ be2 (kp % 65536)) ++ putB L) ++ dat d.id) ++ (if hw then putB d.WL ++ (dat d.wt ++ dat d.wp) else []) ++ (if hu then dat d.us else []) ++ (if hp then dat d.pa else []) from rfl)
  generalize flU cl hw hu hp rt q = fl at HFLC hfl HBODY
  generalize ND.body ⟨cl, kp, L, hw, q, rt, hu, hp, d⟩ = BODY at HBODY ⊢
  have HFL := Lib.hid hfl
  have HLK := Lib.hid hlk
  have HWL := Lib.hid hwl
  have HKP := Lib.hid (show kp ≤ 4294967295 by omega)
  have HID := Lib.hid hid
  have HWT := Lib.hid hwt
  have HWP := Lib.hid hwp
  have HUS := Lib.hid hus
  have HPA := Lib.hid hpa
  have HPL := Lib.hid hL
  have HPL' := Lib.hid hL'
  have HC := Lib.hid hc
  have HC' := Lib.hid hc'
  have HPUT := Lib.hid (putB_len L hlk.sz)
  have HPUT' := Lib.hid (putB_len d.WL hwl.sz)
  clear hfl hlk hwl hkp hid hwt hwp hus hpa hL hL' hc hc' hq
  have HX0 := Lib.hid (show ((w.alloc (.cells #[.bool cl, .int .u32 (kp : Nat), .slice A L.length c, .string d.id, .bool hw, .slice A' d.WL.length c', .string d.wt, .string d.wp, .int .u8 (q : Nat), .bool rt, .bool hu, .bool hp, .string d.us, .string d.pa] 85)).alloc (.cells #[.slice none 0 0] 52)).heap[w.heap.size]? = some (.cells #[.bool cl, .int .u32 (kp : Nat), .slice A L.length c, .string d.id, .bool hw, .slice A' d.WL.length c', .string d.wt, .string d.wp, .int .u8 (q : Nat), .bool rt, .bool hu, .bool hp, .string d.us, .string d.pa] 85 (0, 0)) from blk_alloc (heap_alloc_new w _) _)
  have HO0 := Lib.hid (show OW ((w.alloc (.cells #[.bool cl, .int .u32 (kp : Nat), .slice A L.length c, .string d.id, .bool hw, .slice A' d.WL.length c', .string d.wt, .string d.wp, .int .u8 (q : Nat), .bool rt, .bool hu, .bool hp, .string d.us, .string d.pa] 85)).alloc (.cells #[.slice none 0 0] 52)) (w.heap.size + 1) (fun k => w.heap.size ≤ k) [] by
    have := OW.new (w.alloc (.cells #[.bool cl, .int .u32 (kp : Nat), .slice A L.length c, .string d.id, .bool hw, .slice A' d.WL.length c', .string d.wt, .string d.wp, .int .u8 (q : Nat), .bool rt, .bool hu, .bool hp, .string d.us, .string d.pa] 85)) (fun k => w.heap.size ≤ k)
    rw [World.size_alloc] at this
    exact this)
  have HB0 := Lib.hid (show Below w.heap.size w ((w.alloc (.cells #[.bool cl, .int .u32 (kp : Nat), .slice A L.length c, .string d.id, .bool hw, .slice A' d.WL.length c', .string d.wt, .string d.wp, .int .u8 (q : Nat), .bool rt, .bool hu, .bool hp, .string d.us, .string d.pa] 85)).alloc (.cells #[.slice none 0 0] 52)) from ((Below.refl _ _).alloc (Nat.le_refl _) _).alloc (by rw [World.size_alloc]; omega) _)
  have HNB := Lib.hid (show w.heap.size ≠ w.heap.size + 1 by omega)
  have HLB := Lib.hid (show w.heap.size ≤ w.heap.size + 1 by omega)
  go_enter Tryz.func111, Tryz.ntmps111
  go_upto_region 2 with (fail)
  generalize ((w.alloc (.cells #[.bool cl, .int .u32 (kp : Nat), .slice A L.length c, .string d.id, .bool hw, .slice A' d.WL.length c', .string d.wt, .string d.wp, .int .u8 (q : Nat), .bool rt, .bool hu, .bool hp, .string d.us, .string d.pa] 85)).alloc (.cells #[.slice none 0 0] 52)) = W0 at HX0 HB0 HO0 ⊢
  obtain ⟨p0_0, p0_1, p0_2, p0_3, p0_4, p0_5, p0_6, p0_7, p0_8, p0_9, p0_10, p0_11, p0_12, p0_13⟩ := ncell HX0.out
  have HXd := Lib.hid (blk_drew HX0.out)
  have HOd := Lib.hid (HO0.out.drew)
  have HBd := Lib.hid (below_dr HB0.out)
  have HLd := Lib.hid (show ([] : List UInt8).length ≤ 0 from Nat.le_refl _)
  have HLd9 := Lib.hid (show ([] : List UInt8).length ≤ 900000 by show 0 ≤ 900000; omega)
  have HMS := Lib.hid (show (⟨#[77, 81, 84, 84]⟩ : ByteArray).size ≤ 65535 by decide)
  have HMD := Lib.hid (show (dat ⟨#[77, 81, 84, 84]⟩).length = 6 from rfl)
  clear HX0 HO0 HB0
  have HB5 := Lib.hid (fun (w : World) (h : OW w (w.heap.size) (fun k => True) []) => h)
  clear HB5
  go_region_held3 (fun w' => w'.cell? ⟨w.heap.size, 0, none⟩ = some (.bool cl) ∧ w'.cell? ⟨w.heap.size, 1, none⟩ = some (.int .u32 (kp : Nat)) ∧ w'.cell? ⟨w.heap.size, 2, none⟩ = some (.slice A L.length c) ∧ w'.cell? ⟨w.heap.size, 3, none⟩ = some (.string d.id) ∧ w'.cell? ⟨w.heap.size, 4, none⟩ = some (.bool hw) ∧ w'.cell? ⟨w.heap.size, 5, none⟩ = some (.slice A' d.WL.length c') ∧ w'.cell? ⟨w.heap.size, 6, none⟩ = some (.string d.wt) ∧ w'.cell? ⟨w.heap.size, 7, none⟩ = some (.string d.wp) ∧ w'.cell? ⟨w.heap.size, 8, none⟩ = some (.int .u8 (q : Nat)) ∧ w'.cell? ⟨w.heap.size, 9, none⟩ = some (.bool rt) ∧ w'.cell? ⟨w.heap.size, 10, none⟩ = some (.bool hu) ∧ w'.cell? ⟨w.heap.size, 11, none⟩ = some (.bool hp) ∧ w'.cell? ⟨w.heap.size, 12, none⟩ = some (.string d.us) ∧ w'.cell? ⟨w.heap.size, 13, none⟩ = some (.string d.pa)) (first | exact ⟨p0_0, p0_1, p0_2, p0_3, p0_4, p0_5, p0_6, p0_7, p0_8, p0_9, p0_10, p0_11, p0_12, p0_13⟩ | exact ⟨p1_0, p1_1, p1_2, p1_3, p1_4, p1_5, p1_6, p1_7, p1_8, p1_9, p1_10, p1_11, p1_12, p1_13⟩ | exact ⟨p2_0, p2_1, p2_2, p2_3, p2_4, p2_5, p2_6, p2_7, p2_8, p2_9, p2_10, p2_11, p2_12, p2_13⟩ | exact ⟨p3_0, p3_1, p3_2, p3_3, p3_4, p3_5, p3_6, p3_7, p3_8, p3_9, p3_10, p3_11, p3_12, p3_13⟩ | exact ⟨p4_0, p4_1, p4_2, p4_3, p4_4, p4_5, p4_6, p4_7, p4_8, p4_9, p4_10, p4_11, p4_12, p4_13⟩ | exact ⟨p5_0, p5_1, p5_2, p5_3, p5_4, p5_5, p5_6, p5_7, p5_8, p5_9, p5_10, p5_11, p5_12, p5_13⟩ | go_keep) (first
    | (go_at_call 106; (with_reducible refine (dat_calls HOd.out HBd.out.size HLd9.out (⟨#[77, 81, 84, 84]⟩ : ByteArray) HMS.out).mono ?_); rintro e w1 ⟨rfl, ho, hc1⟩; have HO1 := Lib.hid ho; have hx := Ch5.blk hc1 HXd.out HNB.out (by decide); have HX1 := Lib.hid hx; have HB1 := Lib.hid (HBd.out.trans (hc1.to_below HBd.out.size HLB.out (fun _ h => h))); have HL1 := Lib.hid (show ([] ++ dat ⟨#[77, 81, 84, 84]⟩).length ≤ 6 by rw [List.length_append]; have h1 := HLd.out; rw [HMD.out]; omega); obtain ⟨p1_0, p1_1, p1_2, p1_3, p1_4, p1_5, p1_6, p1_7, p1_8, p1_9, p1_10, p1_11, p1_12, p1_13⟩ := ncell hx; clear ho hc1 hx)
    | (go_at_call 30; (with_reducible refine (byte_calls HO3.out (fun k hk => Nat.le_trans HB3.out.size hk) (Nat.le_trans HL2.out (by decide)) fl HFL.out).mono ?_); rintro e w4 ⟨rfl, ho, hc1⟩; have HO4 := Lib.hid ho; have hx := Ch5.blk hc1 HX3.out HNB.out (by decide); have HX4 := Lib.hid hx; have HB4 := Lib.hid (HB3.out.trans (hc1.to_below HB3.out.size HLB.out (fun _ h => h))); have HL4 := Lib.hid (show ((([] ++ dat ⟨#[77, 81, 84, 84]⟩) ++ [UInt8.ofNat 5]) ++ [UInt8.ofNat fl]).length ≤ 8 by rw [List.length_append]; have h1 := HL2.out; show _ + 1 ≤ 8; omega); obtain ⟨p4_0, p4_1, p4_2, p4_3, p4_4, p4_5, p4_6, p4_7, p4_8, p4_9, p4_10, p4_11, p4_12, p4_13⟩ := ncell hx; clear ho hc1 hx)
    | (go_at_call 30; (refine (byte_calls HO1.out (fun k hk => Nat.le_trans HB1.out.size hk) (Nat.le_trans HL1.out (by decide)) 5 (by decide)).mono ?_); rintro e w2 ⟨rfl, ho, hc1⟩; have HO2 := Lib.hid ho; have hx := Ch5.blk hc1 HX1.out HNB.out (by decide); have HX2 := Lib.hid hx; have HB2 := Lib.hid (HB1.out.trans (hc1.to_below HB1.out.size HLB.out (fun _ h => h))); have HL2 := Lib.hid (show (([] ++ dat ⟨#[77, 81, 84, 84]⟩) ++ [UInt8.ofNat 5]).length ≤ 7 by rw [List.length_append]; have h1 := HL1.out; show _ + 1 ≤ 7; omega); obtain ⟨p2_0, p2_1, p2_2, p2_3, p2_4, p2_5, p2_6, p2_7, p2_8, p2_9, p2_10, p2_11, p2_12, p2_13⟩ := ncell hx; clear ho hc1 hx)
    | (go_at_call 113; (with_reducible refine (HFLC.out _).mono ?_); rintro e w3 ⟨rfl, hb⟩; have HO3 := Lib.hid (HO2.out.below hb); have HX3 := Lib.hid (blk_below HX2.out hb); have HB3 := Lib.hid (HB2.out.trans (hb.mono HB2.out.size)); obtain ⟨p3_0, p3_1, p3_2, p3_3, p3_4, p3_5, p3_6, p3_7, p3_8, p3_9, p3_10, p3_11, p3_12, p3_13⟩ := ncell HX3.out; clear hb)
    | (go_at_call 107; (with_reducible refine (two_calls HO4.out (fun k hk => Nat.le_trans HB4.out.size hk) (Nat.le_trans HL4.out (by decide)) kp HKP.out).mono ?_); rintro e w5 ⟨rfl, ho, hc1⟩; have HO5 := Lib.hid ho; have hx := Ch5.blk hc1 HX4.out HNB.out (by decide); have HX5 := Lib.hid hx; have HB5 := Lib.hid (HB4.out.trans (hc1.to_below HB4.out.size HLB.out (fun _ h => h))); have HL5 := Lib.hid (show (((([] ++ dat ⟨#[77, 81, 84, 84]⟩) ++ [UInt8.ofNat 5]) ++ [UInt8.ofNat fl]) ++ be2 (kp % 65536)).length ≤ 10 by rw [List.length_append]; have h1 := HL4.out; show _ + 2 ≤ 10; omega); obtain ⟨p5_0, p5_1, p5_2, p5_3, p5_4, p5_5, p5_6, p5_7, p5_8, p5_9, p5_10, p5_11, p5_12, p5_13⟩ := ncell hx; clear ho hc1 hx))
  clear p0_0 p0_1 p0_2 p0_3 p0_4 p0_5 p0_6 p0_7 p0_8 p0_9 p0_10 p0_11 p0_12 p0_13 p1_0 p1_1 p1_2 p1_3 p1_4 p1_5 p1_6 p1_7 p1_8 p1_9 p1_10 p1_11 p1_12 p1_13 p2_0 p2_1 p2_2 p2_3 p2_4 p2_5 p2_6 p2_7 p2_8 p2_9 p2_10 p2_11 p2_12 p2_13 p3_0 p3_1 p3_2 p3_3 p3_4 p3_5 p3_6 p3_7 p3_8 p3_9 p3_10 p3_11 p3_12 p3_13 p4_0 p4_1 p4_2 p4_3 p4_4 p4_5 p4_6 p4_7 p4_8 p4_9 p4_10 p4_11 p4_12 p4_13 HXd HOd HBd HO1 HX1 HB1 HL1 HO2 HX2 HB2 HL2 HO3 HX3 HB3 HO4 HX4 HB4 HL4
  go_upto_if 19 with (first | (go_at_call 108; (with_reducible refine (Put_calls HO5.out HB5.out.size (Nat.le_trans HL5.out (by decide)) A c L HC.out (HPL.out.to HB5.out) HLK.out.ok HLK.out.sz HLK.out.len).mono ?_); rintro e w6 ⟨rfl, ho, hc1⟩; have HO6 := Lib.hid ho; have hx := Ch5.blk hc1 HX5.out HNB.out (by decide); have HX6 := Lib.hid hx; have HB6 := Lib.hid (HB5.out.trans (hc1.to_below HB5.out.size HLB.out (fun _ h => h))); have HL6 := Lib.hid (show ((((([] ++ dat ⟨#[77, 81, 84, 84]⟩) ++ [UInt8.ofNat 5]) ++ [UInt8.ofNat fl]) ++ be2 (kp % 65536)) ++ putB L).length ≤ 100014 by rw [List.length_append]; have h1 := HL5.out; have h2 := HPUT.out; omega); obtain ⟨p6_0, p6_1, p6_2, p6_3, p6_4, p6_5, p6_6, p6_7, p6_8, p6_9, p6_10, p6_11, p6_12, p6_13⟩ := ncell hx; clear ho hc1 hx) | (go_at_call 106; (with_reducible refine (dat_calls HO6.out HB6.out.size (Nat.le_trans HL6.out (by decide)) d.id HID.out).mono ?_); rintro e w7 ⟨rfl, ho, hc1⟩; have HO7 := Lib.hid ho; have hx := Ch5.blk hc1 HX6.out HNB.out (by decide); have HX7 := Lib.hid hx; have HB7 := Lib.hid (HB6.out.trans (hc1.to_below HB6.out.size HLB.out (fun _ h => h))); have HL7 := Lib.hid (show (((((([] ++ dat ⟨#[77, 81, 84, 84]⟩) ++ [UInt8.ofNat 5]) ++ [UInt8.ofNat fl]) ++ be2 (kp % 65536)) ++ putB L) ++ dat d.id).length ≤ 165551 by rw [List.length_append, dat_size]; have h1 := HL6.out; have h2 := HID.out; omega); obtain ⟨p7_0, p7_1, p7_2, p7_3, p7_4, p7_5, p7_6, p7_7, p7_8, p7_9, p7_10, p7_11, p7_12, p7_13⟩ := ncell hx; clear ho hc1 hx))
  clear HO5 HX5 HB5 HL5 HO6 HX6 HB6 HL6
  generalize (((((([] ++ dat ⟨#[77, 81, 84, 84]⟩) ++ [UInt8.ofNat 5]) ++ [UInt8.ofNat fl]) ++ be2 (kp % 65536)) ++ putB L) ++ dat d.id) = l7 at HO7 HL7 HBODY
  go_cut [] (fun wx => ∃ l : List UInt8, Hid (l = l7 ++ (if hw then putB d.WL ++ (dat d.wt ++ dat d.wp) else [])) ∧ Hid (OW wx (w.heap.size + 1) (fun k => w.heap.size ≤ k) l) ∧ Hid (l.length ≤ 396629) ∧ Hid (wx.heap[w.heap.size]? = some (.cells #[.bool cl, .int .u32 (kp : Nat), .slice A L.length c, .string d.id, .bool hw, .slice A' d.WL.length c', .string d.wt, .string d.wp, .int .u8 (q : Nat), .bool rt, .bool hu, .bool hp, .string d.us, .string d.pa] 85 (0, 0))) ∧ Hid (Below w.heap.size w wx))
  case first =>
    cases hw with
    | false =>
      go_wp2
      go_meet
      exact ⟨l7, Lib.hid (by simp), HO7, Lib.hid (Nat.le_trans HL7.out (by decide)), HX7, HB7⟩
    | true =>
      obtain ⟨p7_0, p7_1, p7_2, p7_3, p7_4, p7_5, p7_6, p7_7, p7_8, p7_9, p7_10, p7_11, p7_12, p7_13⟩ := ncell HX7.out
      go_upto_region 7 with (first | (go_at_call 108; (with_reducible refine (Put_calls HO7.out HB7.out.size (Nat.le_trans HL7.out (by decide)) A' c' d.WL HC'.out (HPL'.out.to HB7.out) HWL.out.ok HWL.out.sz HWL.out.len).mono ?_); rintro e w8 ⟨rfl, ho, hc1⟩; have HO8 := Lib.hid ho; have hx := Ch5.blk hc1 HX7.out HNB.out (by decide); have HX8 := Lib.hid hx; have HB8 := Lib.hid (HB7.out.trans (hc1.to_below HB7.out.size HLB.out (fun _ h => h))); have HL8 := Lib.hid (show (l7 ++ putB d.WL).length ≤ 265555 by rw [List.length_append]; have h1 := HL7.out; have h2 := HPUT'.out; omega); obtain ⟨p8_0, p8_1, p8_2, p8_3, p8_4, p8_5, p8_6, p8_7, p8_8, p8_9, p8_10, p8_11, p8_12, p8_13⟩ := ncell hx; clear ho hc1 hx))
      have HXd := Lib.hid (blk_drew HX8.out)
      have HOd := Lib.hid (HO8.out.drew)
      have HBd := Lib.hid (below_dr HB8.out)
      go_region_held3 (fun w' => w'.cell? ⟨w.heap.size, 6, none⟩ = some (.string d.wt) ∧ w'.cell? ⟨w.heap.size, 7, none⟩ = some (.string d.wp)) (first | exact ⟨p8_6, p8_7⟩ | exact ⟨p9_6, p9_7⟩ | exact ⟨p10_6, p10_7⟩ | go_keep) (first
        | (go_at_call 106; (with_reducible refine (dat_calls HO9.out HB9.out.size (Nat.le_trans HL9.out (by decide)) d.wp HWP.out).mono ?_); rintro e w10 ⟨rfl, ho, hc1⟩; have HO10 := Lib.hid ho; have hx := Ch5.blk hc1 HX9.out HNB.out (by decide); have HX10 := Lib.hid hx; have HB10 := Lib.hid (HB9.out.trans (hc1.to_below HB9.out.size HLB.out (fun _ h => h))); have HL10 := Lib.hid (show (((l7 ++ putB d.WL) ++ dat d.wt) ++ dat d.wp).length ≤ 396629 by rw [List.length_append, dat_size]; have h1 := HL9.out; have h2 := HWP.out; omega); obtain ⟨p10_0, p10_1, p10_2, p10_3, p10_4, p10_5, p10_6, p10_7, p10_8, p10_9, p10_10, p10_11, p10_12, p10_13⟩ := ncell hx; clear ho hc1 hx)
        | (go_at_call 106; (with_reducible refine (dat_calls HOd.out HBd.out.size (Nat.le_trans HL8.out (by decide)) d.wt HWT.out).mono ?_); rintro e w9 ⟨rfl, ho, hc1⟩; have HO9 := Lib.hid ho; have hx := Ch5.blk hc1 HXd.out HNB.out (by decide); have HX9 := Lib.hid hx; have HB9 := Lib.hid (HBd.out.trans (hc1.to_below HBd.out.size HLB.out (fun _ h => h))); have HL9 := Lib.hid (show ((l7 ++ putB d.WL) ++ dat d.wt).length ≤ 331092 by rw [List.length_append, dat_size]; have h1 := HL8.out; have h2 := HWT.out; omega); obtain ⟨p9_0, p9_1, p9_2, p9_3, p9_4, p9_5, p9_6, p9_7, p9_8, p9_9, p9_10, p9_11, p9_12, p9_13⟩ := ncell hx; clear ho hc1 hx))
      go_wp2
      go_meet
      exact ⟨((l7 ++ putB d.WL) ++ dat d.wt) ++ dat d.wp, Lib.hid (by simp only [if_true, List.append_assoc]), HO10, HL10, HX10, HB10⟩
  case rest =>
    clear HO7 HX7 HB7 HL7
    obtain ⟨l8, HE8, HO7, HL7, HX7, HB7⟩ := hcut
    obtain ⟨p7_0, p7_1, p7_2, p7_3, p7_4, p7_5, p7_6, p7_7, p7_8, p7_9, p7_10, p7_11, p7_12, p7_13⟩ := ncell HX7.out
    go_upto_if 33 with (fail)
    go_cut [] (fun wx => ∃ l : List UInt8, Hid (l = l8 ++ (if hu then dat d.us else [])) ∧ Hid (OW wx (w.heap.size + 1) (fun k => w.heap.size ≤ k) l) ∧ Hid (l.length ≤ 462166) ∧ Hid (wx.heap[w.heap.size]? = some (.cells #[.bool cl, .int .u32 (kp : Nat), .slice A L.length c, .string d.id, .bool hw, .slice A' d.WL.length c', .string d.wt, .string d.wp, .int .u8 (q : Nat), .bool rt, .bool hu, .bool hp, .string d.us, .string d.pa] 85 (0, 0))) ∧ Hid (Below w.heap.size w wx))
    case first =>
      cases hu with
      | false =>
        go_wp2
        go_meet
        exact ⟨l8, Lib.hid (by simp), HO7, Lib.hid (Nat.le_trans HL7.out (by decide)), HX7, HB7⟩
      | true =>
        go_wp2_with (first | (go_at_call 106; (with_reducible refine (dat_calls HO7.out HB7.out.size (Nat.le_trans HL7.out (by decide)) d.us HUS.out).mono ?_); rintro e w8 ⟨rfl, ho, hc1⟩; have HO8 := Lib.hid ho; have hx := Ch5.blk hc1 HX7.out HNB.out (by decide); have HX8 := Lib.hid hx; have HB8 := Lib.hid (HB7.out.trans (hc1.to_below HB7.out.size HLB.out (fun _ h => h))); have HL8 := Lib.hid (show (l8 ++ dat d.us).length ≤ 462166 by rw [List.length_append, dat_size]; have h1 := HL7.out; have h2 := HUS.out; omega); obtain ⟨p8_0, p8_1, p8_2, p8_3, p8_4, p8_5, p8_6, p8_7, p8_8, p8_9, p8_10, p8_11, p8_12, p8_13⟩ := ncell hx; clear ho hc1 hx))
        go_meet
        exact ⟨l8 ++ dat d.us, Lib.hid (by simp only [if_true]), HO8, HL8, HX8, HB8⟩
    case rest =>
      clear HO7 HX7 HB7 HL7 p7_0 p7_1 p7_2 p7_3 p7_4 p7_5 p7_6 p7_7 p7_8 p7_9 p7_10 p7_11 p7_12 p7_13
      obtain ⟨l9, HE9, HO7, HL7, HX7, HB7⟩ := hcut
      obtain ⟨p7_0, p7_1, p7_2, p7_3, p7_4, p7_5, p7_6, p7_7, p7_8, p7_9, p7_10, p7_11, p7_12, p7_13⟩ := ncell HX7.out
      go_upto_if 38 with (fail)
      go_cut [] (fun wx => ∃ l : List UInt8, Hid (l = l9 ++ (if hp then dat d.pa else [])) ∧ Hid (OW wx (w.heap.size + 1) (fun k => w.heap.size ≤ k) l) ∧ Hid (Below w.heap.size w wx))
      case first =>
        cases hp with
        | false =>
          go_wp2
          go_meet
          exact ⟨l9, Lib.hid (by simp), HO7, HB7⟩
        | true =>
          go_wp2_with (first | (go_at_call 106; (with_reducible refine (dat_calls HO7.out HB7.out.size (Nat.le_trans HL7.out (by decide)) d.pa HPA.out).mono ?_); rintro e w8 ⟨rfl, ho, hc1⟩; have HO8 := Lib.hid ho; have hx := Ch5.blk hc1 HX7.out HNB.out (by decide); have HX8 := Lib.hid hx; have HB8 := Lib.hid (HB7.out.trans (hc1.to_below HB7.out.size HLB.out (fun _ h => h))); have HL8 := Lib.hid (show (l9 ++ dat d.pa).length ≤ 527703 by rw [List.length_append, dat_size]; have h1 := HL7.out; have h2 := HPA.out; omega); obtain ⟨p8_0, p8_1, p8_2, p8_3, p8_4, p8_5, p8_6, p8_7, p8_8, p8_9, p8_10, p8_11, p8_12, p8_13⟩ := ncell hx; clear ho hc1 hx))
          go_meet
          exact ⟨l9 ++ dat d.pa, Lib.hid (by simp only [if_true]), HO8, HB8⟩
      case rest =>
        clear HO7 HX7 HB7 HL7 p7_0 p7_1 p7_2 p7_3 p7_4 p7_5 p7_6 p7_7 p7_8 p7_9 p7_10 p7_11 p7_12 p7_13
        obtain ⟨l10, HE10, HO7, HB7⟩ := hcut
        go_wp2_with (first | (go_at_call 16; refine (text_calls HO7.out).mono ?_; rintro e w5 ⟨rfl, hb2⟩; have HB8 := Lib.hid (HB7.out.trans (hb2.mono HB7.out.size)); clear hb2))
        go_ret
        exact ⟨by rw [HBODY.out, HE10.out, HE9.out, HE8.out]; rfl, HB8.out⟩
end Go.Proofs.YtljbchghbpmghaaGreatDoor

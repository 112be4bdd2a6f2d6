/- Parts of a proof about aliases: E3. -/
import Derived.Test.YtbfgpkogginmjaaGreatDoorZ24
import Derived.Test.YtbfgpkogginmjaaGreatDoorZ27
section
namespace Go.Proofs.YtbfgpkogginmjaaGreatDoor
open Go.RowKit Go.Lib Go.Proofs.YtbfgpkogginmjaaGreatDoorW.PrintWords Go.Proofs.YtbfgpkogginmjaaGreatDoor.PSwitchboardGreat
set_option linter.unusedSectionVars false
variable [LawBase]
set_option linter.unusedVariables false
set_option linter.unusedSimpArgs false
set_option maxRecDepth 1000000
theorem Row1.ne {w : World} {b q : Nat} {e t : TypeId} {cs c : Array Value} (h : Row1 w b e cs) (hq : w.heap[q]? = some (.cells c t (0, 0))) (hne : e ≠ t) : b ≠ q := by
  obtain ⟨X, hX⟩ := h
  exact blk_ne hX hq hne
def ofO1 (l0 : Nat) : Obj := .map #[⟨.string pubS, .pointer (some ⟨l0, 0, none⟩), 0⟩] 1
def ofO2 (l0 l1 : Nat) : Obj := .map #[⟨.string pubS, .pointer (some ⟨l0, 0, none⟩), 0⟩, ⟨.string subS, .pointer (some ⟨l1, 0, none⟩), 1⟩] 2
set_option maxHeartbeats 8000000 in
theorem pump_one {w : World} {L : List (Nat × Obj)} {hb k i0 i1 i2 l0 s0 inn0 win0 que0 pool0 c0 is0 iw0 iq0 : Nat} {lo : Nat → Nat} {es : Array MapEntry} {A0 : Option Addr} (H : Held w L)
    (h0 : L[i0]? = some (hb, brO lo)) (h1 : L[i1]? = some (lo 4, ofO1 l0)) (h2 : L[i2]? = some (lo 3, .map es k)) (hes0 : FStr es pubS (.pointer (some ⟨s0, 0, none⟩))) (hs0 : L[is0]? = some (s0, sesO pubS inn0 win0 que0)) (hw0 : L[iw0]? = some (win0, winO pool0)) (hq0 : L[iq0]? = some (que0, queO (.slice A0 0 c0))) :
    Calls Tryz.prog 46 #[.pointer (some ⟨hb, 0, none⟩)] w (HeldP (.tuple #[]) (L.set iq0 (que0, queO (.slice none 0 0)))) := by
  obtain ⟨b5, b6, b7, b8, b9, b10, b11, b12, b13, b3, b4, b1, b0⟩ := brcells (H.get i0 h0)
  clear b5 b6 b7 b9 b10 b11 b12 b13 b3 b4 b1 b0
  have H0 := Lib.hid h0
  have H1 := Lib.hid h1
  have H2 := Lib.hid h2
  have HES0 := Lib.hid hes0
  have HS0 := Lib.hid hs0
  have HW0 := Lib.hid hw0
  have HQ0 := Lib.hid hq0
  have X00 := Lib.hid (show iq0 ≠ i0 from idx_obj hq0 h0 (cells_ne (by decide)))
  have X10 := Lib.hid (show iq0 ≠ i1 from idx_obj hq0 h1 (by intro h; cases h))
  have X20 := Lib.hid (show iq0 ≠ i2 from idx_obj hq0 h2 (by intro h; cases h))
  have HH := Lib.hid H
  have HB := Lib.hid (Below.refl w.heap.size w)
  have HK := Lib.hid (keys78_calls (w := w) (lo 4))
  have HSO := Lib.hid (sorted1_calls (H.get i1 h1))
  clear H h0 h1 h2 hes0 hs0 hw0 hq0
  unfold KeysP at HSO
  go_enter Tryz.func46, Tryz.ntmps46
  go_upto_region 1 with (first
    | (go_at_call 78; (with_reducible refine HK.out.mono ?_); rintro e w1 ⟨rfl, rfl⟩)
    | (go_at_call 77; (with_reducible refine HSO.out.mono ?_); rintro e w2 ⟨kb, kc, rfl, hkc, hkb, hkr, hb⟩; have HKR := Lib.hid (show Row1 w2 kb 9 #[.string pubS] from hkr); have HB2 := Lib.hid (Below.into (bel1 w _) hb); have HH2 := Lib.hid (HH.out.below HB2.out); clear hkc hkb hkr hb))
  clear b8 HK HSO HH HB
  refine wp_loop_rounds 2 ?_
  rw [rounds_succ]
  have J0 := Lib.hid (show L[i0]? = some (hb, brO lo) from H0.out)
  have J1 := Lib.hid (show L[i1]? = some (lo 4, ofO1 l0) from H1.out)
  have J2 := Lib.hid (show L[i2]? = some (lo 3, .map es k) from H2.out)
  have JS := Lib.hid (show L[is0]? = some (s0, sesO pubS inn0 win0 que0) from HS0.out)
  have JW := Lib.hid (show L[iw0]? = some (win0, winO pool0) from HW0.out)
  have JQ := Lib.hid (show L[iq0]? = some (que0, queO (.slice A0 0 c0)) from HQ0.out)
  have kc0 := HKR.out.cell 0 (.string pubS) rfl
  obtain ⟨b5, b6, b7, b8, b9, b10, b11, b12, b13, b3, b4, b1, b0⟩ := brcells (HH2.out.get i0 J0.out)
  clear b5 b6 b9 b10 b11 b12 b3 b4 b1 b0
  have hl1 := look_h0 (mt := 101) (key := .string pubS) (v := .pointer (some ⟨l0, 0, none⟩)) (i := 0) Tryz.underlying101 Tryz.underlying9 (by simp [MapKept.IsKey]) (HH2.out.get i1 J1.out) rfl
  obtain ⟨q0, hq0⟩ := HES0.out
  go_upto_region 4 with (fail)
  have hd := (Below.refl w2.heap.size w2).drew
  have HD := Lib.hid (HH2.out.below hd)
  have hl2 := look_h0 (w := w2.drew) (mt := 100) (key := .string pubS) Tryz.underlying100 Tryz.underlying9 (by simp [MapKept.IsKey]) (HD.out.get i2 J2.out) hq0
  have HP := Lib.hid (fun now => pump0_calls (w := w2.drew) (show Sess w2.drew s0 pubS 65535 4294967295 0 inn0 win0 que0 true from HD.out.get is0 JS.out) (show Win w2.drew win0 pool0 65535 from HD.out.get iw0 JW.out) (show Que w2.drew que0 (.slice A0 0 c0) from HD.out.get iq0 JQ.out) now)
  unfold Pump0P at HP
  go_region_held3 (fun w' => w'.cell? ⟨hb, 7, none⟩ = some (.map (some (lo 3))) ∧ w'.cell? ⟨hb, 13, none⟩ = some (.int .i64 0)) (first | exact ⟨b7, b13⟩ | go_keep) (first
    | (go_at_call 79; (with_reducible refine (HP.out _).mono ?_); rintro e w3 ⟨rfl, hq, hc⟩; have HN0 := Lib.hid (show Held w3 (L.set iq0 (que0, queO (.slice none 0 0))) from HD.out.set iq0 JQ.out hc hq); have HKR0 := Lib.hid ((HKR.out.below hd).to hc ((HKR.out.below hd).ne (HD.out.get iq0 JQ.out) (by decide))); clear b7 b13; obtain ⟨b5, b6, b7, b8, b9, b10, b11, b12, b13, b3, b4, b1, b0⟩ := brcells (HN0.out.get i0 (set_other J0.out X00.out)); clear b5 b6 b8 b9 b10 b11 b12 b3 b4 b1 b0 hq hc))
  clear hl1 hl2 HP hd HD kc0 b7 b13 J0 J1 J2 JS JW JQ HH2 HKR
  go_upto_region 5 with (fail)
  refine wp_loop_rounds 1 ?_
  rw [rounds_succ]
  go_wp2
  rw [rounds_succ]
  go_wp2
  go_end0
  exact ⟨rfl, HN0.out⟩
set_option maxHeartbeats 8000000 in
theorem pump_two {w : World} {L : List (Nat × Obj)} {hb k i0 i1 i2 l0 s0 inn0 win0 que0 pool0 c0 is0 iw0 iq0 l1 s1 inn1 win1 que1 pool1 c1 is1 iw1 iq1 : Nat} {lo : Nat → Nat} {es : Array MapEntry} {A0 A1 : Option Addr} (H : Held w L) (hqq : iq0 ≠ iq1)
    (h0 : L[i0]? = some (hb, brO lo)) (h1 : L[i1]? = some (lo 4, ofO2 l0 l1)) (h2 : L[i2]? = some (lo 3, .map es k)) (hes0 : FStr es pubS (.pointer (some ⟨s0, 0, none⟩))) (hs0 : L[is0]? = some (s0, sesO pubS inn0 win0 que0)) (hw0 : L[iw0]? = some (win0, winO pool0)) (hq0 : L[iq0]? = some (que0, queO (.slice A0 0 c0))) (hes1 : FStr es subS (.pointer (some ⟨s1, 0, none⟩))) (hs1 : L[is1]? = some (s1, sesO subS inn1 win1 que1)) (hw1 : L[iw1]? = some (win1, winO pool1)) (hq1 : L[iq1]? = some (que1, queO (.slice A1 0 c1))) :
    Calls Tryz.prog 46 #[.pointer (some ⟨hb, 0, none⟩)] w (HeldP (.tuple #[]) ((L.set iq0 (que0, queO (.slice none 0 0))).set iq1 (que1, queO (.slice none 0 0)))) := by
  obtain ⟨b5, b6, b7, b8, b9, b10, b11, b12, b13, b3, b4, b1, b0⟩ := brcells (H.get i0 h0)
  clear b5 b6 b7 b9 b10 b11 b12 b13 b3 b4 b1 b0
  have H0 := Lib.hid h0
  have H1 := Lib.hid h1
  have H2 := Lib.hid h2
  have HES0 := Lib.hid hes0
  have HS0 := Lib.hid hs0
  have HW0 := Lib.hid hw0
  have HQ0 := Lib.hid hq0
  have HES1 := Lib.hid hes1
  have HS1 := Lib.hid hs1
  have HW1 := Lib.hid hw1
  have HQ1 := Lib.hid hq1
  have X00 := Lib.hid (show iq0 ≠ i0 from idx_obj hq0 h0 (cells_ne (by decide)))
  have X10 := Lib.hid (show iq0 ≠ i1 from idx_obj hq0 h1 (by intro h; cases h))
  have X20 := Lib.hid (show iq0 ≠ i2 from idx_obj hq0 h2 (by intro h; cases h))
  have X01 := Lib.hid (show iq1 ≠ i0 from idx_obj hq1 h0 (cells_ne (by decide)))
  have X11 := Lib.hid (show iq1 ≠ i1 from idx_obj hq1 h1 (by intro h; cases h))
  have X21 := Lib.hid (show iq1 ≠ i2 from idx_obj hq1 h2 (by intro h; cases h))
  have XS := Lib.hid (show iq0 ≠ is1 from idx_obj hq0 hs1 (cells_ne (by decide)))
  have XW := Lib.hid (show iq0 ≠ iw1 from idx_obj hq0 hw1 (cells_ne (by decide)))
  have XQ := Lib.hid hqq
  have HH := Lib.hid H
  have HB := Lib.hid (Below.refl w.heap.size w)
  have HK := Lib.hid (keys78_calls (w := w) (lo 4))
  have HSO := Lib.hid (sorted2_calls (H.get i1 h1))
  clear H h0 h1 h2 hes0 hs0 hw0 hq0 hes1 hs1 hw1 hq1 hqq
  unfold KeysP at HSO
  go_enter Tryz.func46, Tryz.ntmps46
  go_upto_region 1 with (first
    | (go_at_call 78; (with_reducible refine HK.out.mono ?_); rintro e w1 ⟨rfl, rfl⟩)
    | (go_at_call 77; (with_reducible refine HSO.out.mono ?_); rintro e w2 ⟨kb, kc, rfl, hkc, hkb, hkr, hb⟩; have HKR := Lib.hid (show Row1 w2 kb 9 #[.string pubS, .string subS] from hkr); have HB2 := Lib.hid (Below.into (bel1 w _) hb); have HH2 := Lib.hid (HH.out.below HB2.out); clear hkc hkb hkr hb))
  clear b8 HK HSO HH HB
  refine wp_loop_rounds 3 ?_
  rw [rounds_succ]
  have J0 := Lib.hid (show L[i0]? = some (hb, brO lo) from H0.out)
  have J1 := Lib.hid (show L[i1]? = some (lo 4, ofO2 l0 l1) from H1.out)
  have J2 := Lib.hid (show L[i2]? = some (lo 3, .map es k) from H2.out)
  have JS := Lib.hid (show L[is0]? = some (s0, sesO pubS inn0 win0 que0) from HS0.out)
  have JW := Lib.hid (show L[iw0]? = some (win0, winO pool0) from HW0.out)
  have JQ := Lib.hid (show L[iq0]? = some (que0, queO (.slice A0 0 c0)) from HQ0.out)
  have kc0 := HKR.out.cell 0 (.string pubS) rfl
  obtain ⟨b5, b6, b7, b8, b9, b10, b11, b12, b13, b3, b4, b1, b0⟩ := brcells (HH2.out.get i0 J0.out)
  clear b5 b6 b9 b10 b11 b12 b3 b4 b1 b0
  have hl1 := look_h0 (mt := 101) (key := .string pubS) (v := .pointer (some ⟨l0, 0, none⟩)) (i := 0) Tryz.underlying101 Tryz.underlying9 (by simp [MapKept.IsKey]) (HH2.out.get i1 J1.out) rfl
  obtain ⟨q0, hq0⟩ := HES0.out
  go_upto_region 4 with (fail)
  have hd := (Below.refl w2.heap.size w2).drew
  have HD := Lib.hid (HH2.out.below hd)
  have hl2 := look_h0 (w := w2.drew) (mt := 100) (key := .string pubS) Tryz.underlying100 Tryz.underlying9 (by simp [MapKept.IsKey]) (HD.out.get i2 J2.out) hq0
  have HP := Lib.hid (fun now => pump0_calls (w := w2.drew) (show Sess w2.drew s0 pubS 65535 4294967295 0 inn0 win0 que0 true from HD.out.get is0 JS.out) (show Win w2.drew win0 pool0 65535 from HD.out.get iw0 JW.out) (show Que w2.drew que0 (.slice A0 0 c0) from HD.out.get iq0 JQ.out) now)
  unfold Pump0P at HP
  go_region_held3 (fun w' => w'.cell? ⟨hb, 7, none⟩ = some (.map (some (lo 3))) ∧ w'.cell? ⟨hb, 13, none⟩ = some (.int .i64 0)) (first | exact ⟨b7, b13⟩ | go_keep) (first
    | (go_at_call 79; (with_reducible refine (HP.out _).mono ?_); rintro e w3 ⟨rfl, hq, hc⟩; have HN0 := Lib.hid (show Held w3 (L.set iq0 (que0, queO (.slice none 0 0))) from HD.out.set iq0 JQ.out hc hq); have HKR0 := Lib.hid ((HKR.out.below hd).to hc ((HKR.out.below hd).ne (HD.out.get iq0 JQ.out) (by decide))); clear b7 b13; obtain ⟨b5, b6, b7, b8, b9, b10, b11, b12, b13, b3, b4, b1, b0⟩ := brcells (HN0.out.get i0 (set_other J0.out X00.out)); clear b5 b6 b8 b9 b10 b11 b12 b3 b4 b1 b0 hq hc))
  clear hl1 hl2 HP hd HD kc0 b7 b13 J0 J1 J2 JS JW JQ HH2 HKR
  go_upto_region 5 with (fail)
  refine wp_loop_rounds 1 ?_
  rw [rounds_succ]
  go_wp2
  rw [rounds_succ]
  have J0 := Lib.hid (show (L.set iq0 (que0, queO (.slice none 0 0)))[i0]? = some (hb, brO lo) from (set_other H0.out X00.out))
  have J1 := Lib.hid (show (L.set iq0 (que0, queO (.slice none 0 0)))[i1]? = some (lo 4, ofO2 l0 l1) from (set_other H1.out X10.out))
  have J2 := Lib.hid (show (L.set iq0 (que0, queO (.slice none 0 0)))[i2]? = some (lo 3, .map es k) from (set_other H2.out X20.out))
  have JS := Lib.hid (show (L.set iq0 (que0, queO (.slice none 0 0)))[is1]? = some (s1, sesO subS inn1 win1 que1) from (set_other HS1.out XS.out))
  have JW := Lib.hid (show (L.set iq0 (que0, queO (.slice none 0 0)))[iw1]? = some (win1, winO pool1) from (set_other HW1.out XW.out))
  have JQ := Lib.hid (show (L.set iq0 (que0, queO (.slice none 0 0)))[iq1]? = some (que1, queO (.slice A1 0 c1)) from (set_other HQ1.out XQ.out))
  have kc1 := HKR0.out.cell 1 (.string subS) rfl
  obtain ⟨b5, b6, b7, b8, b9, b10, b11, b12, b13, b3, b4, b1, b0⟩ := brcells (HN0.out.get i0 J0.out)
  clear b5 b6 b9 b10 b11 b12 b3 b4 b1 b0
  have hl1 := look_h0 (mt := 101) (key := .string subS) (v := .pointer (some ⟨l1, 0, none⟩)) (i := 1) Tryz.underlying101 Tryz.underlying9 (by simp [MapKept.IsKey]) (HN0.out.get i1 J1.out) rfl
  obtain ⟨q1, hq1⟩ := HES1.out
  go_upto_region 4 with (fail)
  have hd := (Below.refl w3.heap.size w3).drew
  have HD := Lib.hid (HN0.out.below hd)
  have hl2 := look_h0 (w := w3.drew) (mt := 100) (key := .string subS) Tryz.underlying100 Tryz.underlying9 (by simp [MapKept.IsKey]) (HD.out.get i2 J2.out) hq1
  have HP := Lib.hid (fun now => pump0_calls (w := w3.drew) (show Sess w3.drew s1 subS 65535 4294967295 0 inn1 win1 que1 true from HD.out.get is1 JS.out) (show Win w3.drew win1 pool1 65535 from HD.out.get iw1 JW.out) (show Que w3.drew que1 (.slice A1 0 c1) from HD.out.get iq1 JQ.out) now)
  unfold Pump0P at HP
  go_region_held3 (fun w' => w'.cell? ⟨hb, 7, none⟩ = some (.map (some (lo 3))) ∧ w'.cell? ⟨hb, 13, none⟩ = some (.int .i64 0)) (first | exact ⟨b7, b13⟩ | go_keep) (first
    | (go_at_call 79; (with_reducible refine (HP.out _).mono ?_); rintro e w4 ⟨rfl, hq, hc⟩; have HN1 := Lib.hid (show Held w4 ((L.set iq0 (que0, queO (.slice none 0 0))).set iq1 (que1, queO (.slice none 0 0))) from HD.out.set iq1 JQ.out hc hq); have HKR1 := Lib.hid ((HKR0.out.below hd).to hc ((HKR0.out.below hd).ne (HD.out.get iq1 JQ.out) (by decide))); clear b7 b13; obtain ⟨b5, b6, b7, b8, b9, b10, b11, b12, b13, b3, b4, b1, b0⟩ := brcells (HN1.out.get i0 (set_other J0.out X01.out)); clear b5 b6 b8 b9 b10 b11 b12 b3 b4 b1 b0 hq hc))
  clear hl1 hl2 HP hd HD kc1 b7 b13 J0 J1 J2 JS JW JQ HN0 HKR0
  go_upto_region 5 with (fail)
  refine wp_loop_rounds 1 ?_
  rw [rounds_succ]
  go_wp2
  rw [rounds_succ]
  go_wp2
  go_end0
  exact ⟨rfl, HN1.out⟩
set_option maxHeartbeats 8000000 in
theorem pump_msg {w : World} {L : List (Nat × Obj)} {hb k i0 i1 i2 l0 s0 inn0 win0 que0 pool0 c0 is0 iw0 iq0 l1 s1 inn1 win1 que1 pool1 c1 is1 iw1 iq1 : Nat} {lo : Nat → Nat} {es : Array MapEntry} {A0 : Option Addr} {mb rd1 tb1 nm kN ci came i3 i4 i5 i6 : Nat} {f n wait said : ByteArray} {esN : Array MapEntry} (H : Held w L) (hqq : iq0 ≠ iq1)
    (h0 : L[i0]? = some (hb, brO lo)) (h1 : L[i1]? = some (lo 4, ofO2 l0 l1)) (h2 : L[i2]? = some (lo 3, .map es k)) (hes0 : FStr es pubS (.pointer (some ⟨s0, 0, none⟩))) (hs0 : L[is0]? = some (s0, sesO pubS inn0 win0 que0)) (hw0 : L[iw0]? = some (win0, winO pool0)) (hq0 : L[iq0]? = some (que0, queO (.slice A0 0 c0))) (hes1 : FStr es subS (.pointer (some ⟨s1, 0, none⟩))) (hs1 : L[is1]? = some (s1, sesO subS inn1 win1 que1)) (hw1 : L[iw1]? = some (win1, winO pool1)) (hq1 : L[iq1]? = some (que1, queO (.slice (some ⟨mb, 0, none⟩) 1 c1)))
    (h3 : L[i3]? = some (l1, linO 1 rd1 tb1 subS true)) (h4 : L[i4]? = some (lo 1 + 1, netO nm)) (h5 : L[i5]? = some (nm, .map esN kN)) (hN : FInt esN 1 (.pointer (some ⟨ci, 0, none⟩))) (h6 : L[i6]? = some (ci, connO wait came said)) (hz : said.size ≤ 1000000) (hr : Row1 w mb 278 (msgC f n)) (hn : n.size ≤ 100) :
    Calls Tryz.prog 46 #[.pointer (some ⟨hb, 0, none⟩)] w (fun e w' => ∃ A c, e = .returned (.tuple #[]) ∧ Held w' ((((L.set iq0 (que0, queO (.slice none 0 0)))).set iq1 (que1, queO (.slice A 0 c))).set i6 (ci, connO wait came (said ++ toB (frB 3 0 (pubB n)))))) := by
  obtain ⟨b5, b6, b7, b8, b9, b10, b11, b12, b13, b3, b4, b1, b0⟩ := brcells (H.get i0 h0)
  clear b5 b6 b7 b9 b10 b11 b12 b13 b3 b4 b1 b0
  have H0 := Lib.hid h0
  have H1 := Lib.hid h1
  have H2 := Lib.hid h2
  have H3 := Lib.hid h3
  have H4 := Lib.hid h4
  have H5 := Lib.hid h5
  have HNN := Lib.hid hN
  have H6 := Lib.hid h6
  have HZ := Lib.hid hz
  have HR := Lib.hid hr
  have HN := Lib.hid hn
  have HES0 := Lib.hid hes0
  have HS0 := Lib.hid hs0
  have HW0 := Lib.hid hw0
  have HQ0 := Lib.hid hq0
  have HES1 := Lib.hid hes1
  have HS1 := Lib.hid hs1
  have HW1 := Lib.hid hw1
  have HQ1 := Lib.hid hq1
  have X00 := Lib.hid (show iq0 ≠ i0 from idx_obj hq0 h0 (cells_ne (by decide)))
  have X10 := Lib.hid (show iq0 ≠ i1 from idx_obj hq0 h1 (by intro h; cases h))
  have X20 := Lib.hid (show iq0 ≠ i2 from idx_obj hq0 h2 (by intro h; cases h))
  have X01 := Lib.hid (show iq1 ≠ i0 from idx_obj hq1 h0 (cells_ne (by decide)))
  have X11 := Lib.hid (show iq1 ≠ i1 from idx_obj hq1 h1 (by intro h; cases h))
  have X21 := Lib.hid (show iq1 ≠ i2 from idx_obj hq1 h2 (by intro h; cases h))
  have XS := Lib.hid (show iq0 ≠ is1 from idx_obj hq0 hs1 (cells_ne (by decide)))
  have XW := Lib.hid (show iq0 ≠ iw1 from idx_obj hq0 hw1 (cells_ne (by decide)))
  have XQ := Lib.hid hqq
  have Y3 := Lib.hid (show iq0 ≠ i3 from idx_obj hq0 h3 (cells_ne (by decide)))
  have Z3 := Lib.hid (show iq1 ≠ i3 from idx_obj hq1 h3 (cells_ne (by decide)))
  have Y4 := Lib.hid (show iq0 ≠ i4 from idx_obj hq0 h4 (cells_ne (by decide)))
  have Z4 := Lib.hid (show iq1 ≠ i4 from idx_obj hq1 h4 (cells_ne (by decide)))
  have Y6 := Lib.hid (show iq0 ≠ i6 from idx_obj hq0 h6 (cells_ne (by decide)))
  have Z6 := Lib.hid (show iq1 ≠ i6 from idx_obj hq1 h6 (cells_ne (by decide)))
  have Y5 := Lib.hid (show iq0 ≠ i5 from idx_obj hq0 h5 (by intro h; cases h))
  have Z5 := Lib.hid (show iq1 ≠ i5 from idx_obj hq1 h5 (by intro h; cases h))
  have Z1s := Lib.hid (show iq1 ≠ is1 from idx_obj hq1 hs1 (cells_ne (by decide)))
  have Z0b := Lib.hid (show iq1 ≠ i0 from idx_obj hq1 h0 (cells_ne (by decide)))
  have HH := Lib.hid H
  have HB := Lib.hid (Below.refl w.heap.size w)
  have HK := Lib.hid (keys78_calls (w := w) (lo 4))
  have HSO := Lib.hid (sorted2_calls (H.get i1 h1))
  clear H h0 h1 h2 hes0 hs0 hw0 hq0 hes1 hs1 hw1 hq1 hqq h3 h4 h5 hN h6 hz hr hn
  unfold KeysP at HSO
  go_enter Tryz.func46, Tryz.ntmps46
  go_upto_region 1 with (first
    | (go_at_call 78; (with_reducible refine HK.out.mono ?_); rintro e w1 ⟨rfl, rfl⟩)
    | (go_at_call 77; (with_reducible refine HSO.out.mono ?_); rintro e w2 ⟨kb, kc, rfl, hkc, hkb, hkr, hb⟩; have HKR := Lib.hid (show Row1 w2 kb 9 #[.string pubS, .string subS] from hkr); have HB2 := Lib.hid (Below.into (bel1 w _) hb); have HH2 := Lib.hid (HH.out.below HB2.out); clear hkc hkb hkr hb))
  clear b8 HK HSO HH HB
  refine wp_loop_rounds 3 ?_
  have HRm2 := Lib.hid (HR.out.below HB2.out)
  rw [rounds_succ]
  have J0 := Lib.hid (show L[i0]? = some (hb, brO lo) from H0.out)
  have J1 := Lib.hid (show L[i1]? = some (lo 4, ofO2 l0 l1) from H1.out)
  have J2 := Lib.hid (show L[i2]? = some (lo 3, .map es k) from H2.out)
  have JS := Lib.hid (show L[is0]? = some (s0, sesO pubS inn0 win0 que0) from HS0.out)
  have JW := Lib.hid (show L[iw0]? = some (win0, winO pool0) from HW0.out)
  have JQ := Lib.hid (show L[iq0]? = some (que0, queO (.slice A0 0 c0)) from HQ0.out)
  have kc0 := HKR.out.cell 0 (.string pubS) rfl
  obtain ⟨b5, b6, b7, b8, b9, b10, b11, b12, b13, b3, b4, b1, b0⟩ := brcells (HH2.out.get i0 J0.out)
  clear b5 b6 b9 b10 b11 b12 b3 b4 b1 b0
  have hl1 := look_h0 (mt := 101) (key := .string pubS) (v := .pointer (some ⟨l0, 0, none⟩)) (i := 0) Tryz.underlying101 Tryz.underlying9 (by simp [MapKept.IsKey]) (HH2.out.get i1 J1.out) rfl
  obtain ⟨q0, hq0⟩ := HES0.out
  go_upto_region 4 with (fail)
  have hd := (Below.refl w2.heap.size w2).drew
  have HD := Lib.hid (HH2.out.below hd)
  have hl2 := look_h0 (w := w2.drew) (mt := 100) (key := .string pubS) Tryz.underlying100 Tryz.underlying9 (by simp [MapKept.IsKey]) (HD.out.get i2 J2.out) hq0
  have HP := Lib.hid (fun now => pump0_calls (w := w2.drew) (show Sess w2.drew s0 pubS 65535 4294967295 0 inn0 win0 que0 true from HD.out.get is0 JS.out) (show Win w2.drew win0 pool0 65535 from HD.out.get iw0 JW.out) (show Que w2.drew que0 (.slice A0 0 c0) from HD.out.get iq0 JQ.out) now)
  unfold Pump0P at HP
  go_region_held3 (fun w' => w'.cell? ⟨hb, 7, none⟩ = some (.map (some (lo 3))) ∧ w'.cell? ⟨hb, 13, none⟩ = some (.int .i64 0)) (first | exact ⟨b7, b13⟩ | go_keep) (first
    | (go_at_call 79; (with_reducible refine (HP.out _).mono ?_); rintro e w3 ⟨rfl, hq, hc⟩; have HN0 := Lib.hid (show Held w3 (L.set iq0 (que0, queO (.slice none 0 0))) from HD.out.set iq0 JQ.out hc hq); have HKR0 := Lib.hid ((HKR.out.below hd).to hc ((HKR.out.below hd).ne (HD.out.get iq0 JQ.out) (by decide))); have HRm3 := Lib.hid ((HRm2.out.below hd).to hc ((HRm2.out.below hd).ne (HD.out.get iq0 JQ.out) (by decide))); clear b7 b13; obtain ⟨b5, b6, b7, b8, b9, b10, b11, b12, b13, b3, b4, b1, b0⟩ := brcells (HN0.out.get i0 (set_other J0.out X00.out)); clear b5 b6 b8 b9 b10 b11 b12 b3 b4 b1 b0 hq hc))
  clear hl1 hl2 HP hd HD kc0 b7 b13 J0 J1 J2 JS JW JQ HH2 HKR
  go_upto_region 5 with (fail)
  refine wp_loop_rounds 1 ?_
  rw [rounds_succ]
  go_wp2
  rw [rounds_succ]
  have J0 := Lib.hid (show (L.set iq0 (que0, queO (.slice none 0 0)))[i0]? = some (hb, brO lo) from (set_other H0.out X00.out))
  have J1 := Lib.hid (show (L.set iq0 (que0, queO (.slice none 0 0)))[i1]? = some (lo 4, ofO2 l0 l1) from (set_other H1.out X10.out))
  have J2 := Lib.hid (show (L.set iq0 (que0, queO (.slice none 0 0)))[i2]? = some (lo 3, .map es k) from (set_other H2.out X20.out))
  have JS := Lib.hid (show (L.set iq0 (que0, queO (.slice none 0 0)))[is1]? = some (s1, sesO subS inn1 win1 que1) from (set_other HS1.out XS.out))
  have JW := Lib.hid (show (L.set iq0 (que0, queO (.slice none 0 0)))[iw1]? = some (win1, winO pool1) from (set_other HW1.out XW.out))
  have JQ := Lib.hid (show (L.set iq0 (que0, queO (.slice none 0 0)))[iq1]? = some (que1, queO (.slice (some ⟨mb, 0, none⟩) 1 c1)) from (set_other HQ1.out XQ.out))
  have kc1 := HKR0.out.cell 1 (.string subS) rfl
  obtain ⟨b5, b6, b7, b8, b9, b10, b11, b12, b13, b3, b4, b1, b0⟩ := brcells (HN0.out.get i0 J0.out)
  clear b5 b6 b9 b10 b11 b12 b3 b4 b1 b0
  have hl1 := look_h0 (mt := 101) (key := .string subS) (v := .pointer (some ⟨l1, 0, none⟩)) (i := 1) Tryz.underlying101 Tryz.underlying9 (by simp [MapKept.IsKey]) (HN0.out.get i1 J1.out) rfl
  obtain ⟨q1, hq1⟩ := HES1.out
  go_upto_region 4 with (fail)
  have hd := (Below.refl w3.heap.size w3).drew
  have HD := Lib.hid (HN0.out.below hd)
  have hl2 := look_h0 (w := w3.drew) (mt := 100) (key := .string subS) Tryz.underlying100 Tryz.underlying9 (by simp [MapKept.IsKey]) (HD.out.get i2 J2.out) hq1
  have HP := Lib.hid (fun now => pump1_calls (w := w3.drew) (n := n) (f := f) (show Sess w3.drew s1 subS 65535 4294967295 0 inn1 win1 que1 true from HD.out.get is1 JS.out) (show Win w3.drew win1 pool1 65535 from HD.out.get iw1 JW.out) (show Que w3.drew que1 (.slice (some ⟨mb, 0, none⟩) 1 c1) from HD.out.get iq1 JQ.out) (HRm3.out.below hd) HN.out now)
  unfold Pump1P at HP
  go_region_held3 (fun w' => w'.cell? ⟨hb, 7, none⟩ = some (.map (some (lo 3))) ∧ w'.cell? ⟨hb, 13, none⟩ = some (.int .i64 0)) (first | exact ⟨b7, b13⟩ | go_keep) (first
    | (go_at_call 79; (with_reducible refine (HP.out _).mono ?_); rintro e w4 ⟨B, d, A, c, rfl, hBs, hd1, hr1, hq, hc⟩; have HB1 := Lib.hid hr1; have HN1 := Lib.hid (show Held w4 ((L.set iq0 (que0, queO (.slice none 0 0))).set iq1 (que1, queO (.slice A 0 c))) from HD.out.set iq1 JQ.out hc hq); have HKR1 := Lib.hid ((HKR0.out.below hd).to hc ((HKR0.out.below hd).ne (HD.out.get iq1 JQ.out) (by decide))); clear b7 b13; obtain ⟨b5, b6, b7, b8, b9, b10, b11, b12, b13, b3, b4, b1, b0⟩ := brcells (HN1.out.get i0 (set_other J0.out X01.out)); clear b5 b6 b8 b9 b10 b11 b12 b3 b4 b1 b0 hq hc))
  clear hl1 hl2 HP hd HD kc1 b7 b13 J0 J1 J2 JS JW JQ HN0 HKR0
  have kb1 := HB1.out.cell 0 (.iface 45 (pubV 0 n)) rfl
  have hT := fun W (hW : Below w4.heap.size w4 W) => pub0_text (w := W) 0 n (by decide) HN.out
  have HF := pub0_frame (w := w4) 0 n (by decide) HN.out
  have HSY := Lib.hid (say_pub (V := pubV 0 n) (kk := 3) (ff := 0) (B := pubB n) (txt := toB (frB 3 0 (pubB n))) (client := subS) (sid := subS) HN1.out (set_other (set_other H0.out X00.out) X01.out) (set_other (set_other H3.out Y3.out) Z3.out) (set_other (set_other H2.out X20.out) X21.out) HES1.out (set_other (set_other HS1.out XS.out) Z1s.out) (set_other (set_other H4.out Y4.out) Z4.out) (set_other (set_other H5.out Y5.out) Z5.out) HNN.out (set_other (set_other H6.out Y6.out) Z6.out) (by rw [toB_size, frB_size]; have h1 := pubB_size n HN.out; have h2 := HN.out; have h3 := varU_len5 (pubB n).size (by omega); have h4 := HZ.out; omega) HF hT (by rw [pubB_size n HN.out]; have := HN.out; omega))
  unfold HeldP at HSY
  clear hT HF
  go_upto_region 5 with (fail)
  refine wp_loop_rounds 2 ?_
  rw [rounds_succ]
  go_wp2_with (first | (go_at_call 80; (with_reducible refine (HSY.out).mono ?_); rintro e w9 ⟨rfl, hh⟩; have HF9 := Lib.hid hh; clear hh))
  rw [rounds_succ]
  go_wp2
  rw [rounds_succ]
  go_wp2
  go_end0
  exact ⟨A, c, rfl, HF9.out⟩
end Go.Proofs.YtbfgpkogginmjaaGreatDoor
end

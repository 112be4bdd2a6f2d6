/- Parts of a proof about aliases: E5. -/
import Derived.Test.YtbfgpkogginmjaaGreatDoorZ30
import Derived.Test.YtbfgpkogginmjaaGreatDoorZ32
section
namespace Go.Proofs.YtbfgpkogginmjaaGreatDoor
open Go.RowKit Go.Lib Go.Proofs.YtbfgpkogginmjaaGreatDoorW.PrintWords Go.Proofs.YtbfgpkogginmjaaGreatDoor.PSwitchboardGreat
set_option linter.unusedSectionVars false
variable [LawBase]
set_option linter.unusedVariables false
set_option linter.unusedSimpArgs false
set_option maxRecDepth 1000000
set_option maxHeartbeats 1600000
theorem delcells {w : World} {b : Nat} {c f n : ByteArray} (h : Row1 w b 357 (delC c f n)) : w.cell? ⟨b, 0, none⟩ = some (.string c) ∧ w.cell? ⟨b, 1, none⟩ = some (.string f) ∧ w.cell? ⟨b, 2, none⟩ = some (.int .i64 0) ∧ w.cell? ⟨b, 3, none⟩ = some (.int .u8 0) ∧ w.cell? ⟨b, 4, none⟩ = some (.bool false) ∧ w.cell? ⟨b, 5, none⟩ = some (.slice none 0 0) ∧ w.cell? ⟨b, 6, none⟩ = some (.string n) ∧ w.cell? ⟨b, 7, none⟩ = some (.string ⟨#[]⟩) :=
  ⟨h.cell 0 _ rfl, h.cell 1 _ rfl, h.cell 2 _ rfl, h.cell 3 _ rfl, h.cell 4 _ rfl, h.cell 5 _ rfl, h.cell 6 _ rfl, h.cell 7 _ rfl⟩
def OfferBP (v : Value) (L : List (Nat × Obj)) (iq que : Nat) (f n : ByteArray) (e : Ending) (w' : World) : Prop := ∃ mb c, e = .returned v ∧ 1 ≤ c ∧ Row1 w' mb 278 (msgC f n) ∧ Held w' (L.set iq (que, queO (.slice (some ⟨mb, 0, none⟩) 1 c)))
theorem offer0_calls {w : World} {hb : Nat} : Calls Tryz.prog 159 #[.pointer (some ⟨hb, 0, none⟩), .slice none 0 0] w (Is (.tuple #[]) w) := by
  go_enter Tryz.func159, Tryz.ntmps159
  go_upto_region 1 with (fail)
  refine wp_loop_rounds 1 ?_
  rw [rounds_succ]
  go_wp2
  go_end0
  exact ⟨rfl, rfl⟩
theorem offer1_calls {w : World} {L : List (Nat × Obj)} {hb k s inn win que db dc : Nat} {lo : Nat → Nat} {es : Array MapEntry} {f n : ByteArray} (H : Held w L) {i0 i2 is iq : Nat} (h0 : L[i0]? = some (hb, brO lo)) (h2 : L[i2]? = some (lo 3, .map es k)) (hes : FStr es ⟨#[115, 117, 98]⟩ (.pointer (some ⟨s, 0, none⟩))) (hs : L[is]? = some (s, sesO subS inn win que)) (hq : L[iq]? = some (que, queO (.slice none 0 0))) (hd : Row1 w db 357 (delC ⟨#[115, 117, 98]⟩ f n)) : Calls Tryz.prog 159 #[.pointer (some ⟨hb, 0, none⟩), .slice (some ⟨db, 0, none⟩) 1 dc] w (OfferBP (.tuple #[]) L iq que f n) := by
  obtain ⟨d0, d1, d2, d3, d4, d5, d6, d7⟩ := delcells hd
  have hb1 := bel1 w (Obj.cells #[.string ⟨#[115, 117, 98]⟩, .string f, .int .i64 0, .int .u8 0, .bool false, .slice none 0 0, .string n, .string ⟨#[]⟩] 357)
  have HH := Lib.hid (H.below hb1)
  have HX := Lib.hid (heap_alloc_new w (Obj.cells #[.string ⟨#[115, 117, 98]⟩, .string f, .int .i64 0, .int .u8 0, .bool false, .slice none 0 0, .string n, .string ⟨#[]⟩] 357))
  have HI0 := Lib.hid h0
  have HI2 := Lib.hid h2
  have HIS := Lib.hid hs
  have HIQ := Lib.hid hq
  obtain ⟨q, hqf⟩ := hes
  have HQF := Lib.hid hqf
  clear H h0 h2 hs hq hqf hd hb1
  go_enter Tryz.func159, Tryz.ntmps159
  go_upto_region 1 with (fail)
  refine wp_loop_rounds 2 ?_
  rw [rounds_succ]
  go_upto_region 3 with (fail)
  generalize w.alloc (Obj.cells #[.string ⟨#[115, 117, 98]⟩, .string f, .int .i64 0, .int .u8 0, .bool false, .slice none 0 0, .string n, .string ⟨#[]⟩] 357) = X at HH HX ⊢
  generalize w.heap.size = b at HX ⊢
  clear d0 d1 d2 d3 d4 d5 d6 d7
  obtain ⟨d0, d1, d2, d3, d4, d5, d6, d7⟩ := eightcell HX.out
  obtain ⟨b5, b6, b7, b8, b9, b10, b11, b12, b13, b3, b4, b1, b0⟩ := brcells (HH.out.get i0 HI0.out)
  clear b5 b6 b8 b9 b10 b11 b12 b13 b3 b4 b1 b0
  have hbd := (Below.refl X.heap.size X).drew
  have HD := Lib.hid (HH.out.below hbd)
  have hlk := look_h0 (w := X.drew) (mt := 100) (key := .string ⟨#[115, 117, 98]⟩) Tryz.underlying100 Tryz.underlying9 (by simp [MapKept.IsKey]) (HD.out.get i2 HI2.out) HQF.out
  have HSO := Lib.hid (soffer_calls (w := X.drew) (f := f) (n := n) (show Sess X.drew s subS 65535 4294967295 0 inn win que true from HD.out.get is HIS.out) (show Que X.drew que (.slice none 0 0) from HD.out.get iq HIQ.out))
  unfold OfferP msg at HSO
  clear hbd
  go_region
  go_upto_region 6 with (first
    | (go_at_call 205; (with_reducible refine (HSO.out).mono ?_); rintro e w3 ⟨mb, c, rfl, hc, hmb, hr, hq, hch⟩; have HCC := Lib.hid hc; have HRR := Lib.hid hr; have HF := Lib.hid (show Held w3 (L.set iq (que, queO (.slice (some ⟨mb, 0, none⟩) 1 c))) from HD.out.set iq HIQ.out hch hq); clear hc hmb hr hq hch))
  clear b7 hlk HSO d0 d1 d2 d3 d4 d5 d6 d7
  go_wp2
  rw [rounds_succ]
  go_wp2
  go_end0
  exact ⟨mb, c, rfl, HCC.out, HRR.out, HF.out⟩
theorem accept_calls {w : World} {L : List (Nat × Obj)} {hb k s inn win que tp sp pk rt nx hs y yn yh srt snx shs : Nat} {lo : Nat → Nat} {es : Array MapEntry} {f n : ByteArray} (H : Held w L) {i0 i2 is iq j0 j1 j2 j3 j4 j5 j6 j7 j8 : Nat} (h0 : L[i0]? = some (hb, brO lo)) (h2 : L[i2]? = some (lo 3, .map es k)) (hes : FStr es ⟨#[115, 117, 98]⟩ (.pointer (some ⟨s, 0, none⟩))) (hs' : L[is]? = some (s, sesO subS inn win que)) (hq : L[iq]? = some (que, queO (.slice none 0 0)))
    (t0 : L[j0]? = some (lo 5 + 10, tblO tp sp pk)) (t1 : L[j1]? = some (tp, trieO rt 1)) (t2 : L[j2]? = some (rt, nodeO nx hs)) (t3 : L[j3]? = some (nx, .map #[⟨.string ⟨#[35]⟩, .pointer (some ⟨y, 0, none⟩), 0⟩] 1)) (t4 : L[j4]? = some (y, nodeO yn yh)) (t5 : L[j5]? = some (yh, .map #[⟨.string ⟨#[115, 117, 98]⟩, keptV, 0⟩] 1)) (t6 : L[j6]? = some (sp, trieO srt 0)) (t7 : L[j7]? = some (srt, nodeO snx shs)) (t8 : L[j8]? = some (snx, .map #[] 0)) (hM : HasM w) (hn : NmB n) (hn0 : 0 < n.size) (hz : n.size ≤ 100) :
    Calls Tryz.prog 145 #[.pointer (some ⟨hb, 0, none⟩), msg f n] w (OfferBP (.int .i64 1) L iq que f n) := by
  have hb1 : Below w.heap.size w ((w.alloc (Obj.cells #[.string f, .int .i64 0, .int .u8 0, .bool false, .slice none 0 0, .string n, .string ⟨#[]⟩] 278)).drew) := (bel1 w (Obj.cells #[.string f, .int .i64 0, .int .u8 0, .bool false, .slice none 0 0, .string n, .string ⟨#[]⟩] 278)).drew
  have hh := H.below hb1
  have HH := Lib.hid hh
  have HM := Lib.hid (show ((w.alloc (Obj.cells #[.string f, .int .i64 0, .int .u8 0, .bool false, .slice none 0 0, .string n, .string ⟨#[]⟩] 278)).drew).heap[w.heap.size]? = some (Obj.cells #[.string f, .int .i64 0, .int .u8 0, .bool false, .slice none 0 0, .string n, .string ⟨#[]⟩] 278) from heap_alloc_new w (Obj.cells #[.string f, .int .i64 0, .int .u8 0, .bool false, .slice none 0 0, .string n, .string ⟨#[]⟩] 278))
  have HPL := Lib.hid (fun on => plan_calls (w := ((w.alloc (Obj.cells #[.string f, .int .i64 0, .int .u8 0, .bool false, .slice none 0 0, .string n, .string ⟨#[]⟩] 278)).drew)) (f := f) (on := on) (hh.get j0 t0) (hh.get j1 t1) (hh.get j2 t2) (hh.get j3 t3) (hh.get j4 t4) (hh.get j5 t5) (hh.get j6 t6) (hh.get j7 t7) (hh.get j8 t8) (hM.to hb1) hn hn0 hz)
  have HOF := Lib.hid (fun W db dc (hW : Held W L) (hd : Row1 W db 357 (delC ⟨#[115, 117, 98]⟩ f n)) => offer1_calls (dc := dc) hW h0 h2 hes hs' hq hd)
  have HI0 := Lib.hid h0
  unfold DirectP msg at HPL
  unfold OfferBP at HOF
  unfold msg
  clear H h0 h2 hes hs' hq t0 t1 t2 t3 t4 t5 t6 t7 t8 hM hn hn0 hz hb1 hh
  go_enter Tryz.func145, Tryz.ntmps145
  obtain ⟨m0, m1, m2, m3, m4, m5, m6⟩ := sevencell HM.out
  have hm3 : (w.alloc (Obj.cells #[.string f, .int .i64 0, .int .u8 0, .bool false, .slice none 0 0, .string n, .string ⟨#[]⟩] 278)).cell? ⟨w.heap.size, 3, none⟩ = some (.bool false) := m3
  go_upto_region 3 with (fail)
  obtain ⟨b5, b6, b7, b8, b9, b10, b11, b12, b13, b3, b4, b1, b0⟩ := brcells (HH.out.get i0 HI0.out)
  clear b5 b6 b7 b8 b10 b11 b12 b13 b3 b4 b1 b0
  go_region_held3 (fun w' => w'.cell? ⟨hb, 9, none⟩ = some (.pointer (some ⟨lo 5 + 10, 0, none⟩)) ∧ w'.cell? ⟨w.heap.size, 0, none⟩ = some (.string f) ∧ w'.cell? ⟨w.heap.size, 1, none⟩ = some (.int .i64 0) ∧ w'.cell? ⟨w.heap.size, 2, none⟩ = some (.int .u8 0) ∧ w'.cell? ⟨w.heap.size, 3, none⟩ = some (.bool false) ∧ w'.cell? ⟨w.heap.size, 4, none⟩ = some (.slice none 0 0) ∧ w'.cell? ⟨w.heap.size, 5, none⟩ = some (.string n) ∧ w'.cell? ⟨w.heap.size, 6, none⟩ = some (.string ⟨#[]⟩)) (first | exact ⟨b9, m0, m1, m2, m3, m4, m5, m6⟩ | exact ⟨c9, x0, x1, x2, x3, x4, x5, x6⟩ | go_keep) (first
    | (go_at_call 194; (with_reducible refine (HPL.out _).mono ?_); rintro e w2 ⟨B, c, rfl, hc, hBs, hr, hhb⟩; have HCC := Lib.hid hc; have HRR := Lib.hid hr; have HH2 := Lib.hid (HH.out.below hhb); have HM2 := Lib.hid (blk_below HM.out hhb); obtain ⟨x0, x1, x2, x3, x4, x5, x6⟩ := sevencell HM2.out; have c9 := (brcells (HH2.out.get i0 HI0.out)).2.2.2.2.1; clear hc hBs hr hhb))
  clear x0 x1 x2 x3 x4 x5 x6 m0 m1 m2 m3 m4 m5 m6 b9 c9 hm3
  go_wp2_with (first
    | (go_at_call 159; (with_reducible refine (HOF.out _ _ c HH2.out HRR.out).mono ?_); rintro e w3 ⟨mb, c3, rfl, hc, hr, hh⟩; have HC3 := Lib.hid hc; have HR3 := Lib.hid hr; have HH3 := Lib.hid hh; clear hc hr hh))
  go_ret
  exact ⟨mb, c3, rfl, HC3.out, HR3.out, HH3.out⟩
end Go.Proofs.YtbfgpkogginmjaaGreatDoor
end

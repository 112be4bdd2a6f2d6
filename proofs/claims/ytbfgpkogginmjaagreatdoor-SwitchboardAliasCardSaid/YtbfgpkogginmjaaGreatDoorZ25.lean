/- Parts of a proof about aliases: E1, T12. -/
import Derived.Test.YtbfgpkogginmjaaGreatDoorZ13
import Derived.Test.YtbfgpkogginmjaaGreatDoorZ22
section
namespace Go.Proofs.YtbfgpkogginmjaaGreatDoor
open Go.RowKit Go.Lib Go.Proofs.YtbfgpkogginmjaaGreatDoorW.PrintWords Go.Proofs.YtbfgpkogginmjaaGreatDoor.PSwitchboardGreat
set_option linter.unusedSectionVars false
variable [LawBase]
set_option linter.unusedVariables false
set_option linter.unusedSimpArgs false
set_option maxRecDepth 1000000
def netO (m : Nat) : Obj := .cells #[.map (some m)] 143
def connO (wait : ByteArray) (came : Nat) (said : ByteArray) : Obj := .cells #[.string wait, .int .i64 (came : Nat), .bool false, .string said, .bool false] 168
def linO (id : Int) (rd tb : Nat) (client : ByteArray) (open_ : Bool) : Obj := .cells #[.int .i64 id, .pointer (some ⟨rd, 0, none⟩), .pointer (some ⟨tb, 0, none⟩), .string client, .bool open_, .int .i64 0] 126
def rdO (s : ByteArray) : Obj := .cells #[.int .i64 2000, .string s, .int .i64 0] 170
def sesO (id : ByteArray) (inn win que : Nat) : Obj := .cells #[.string id, .int .i64 65535, .int .i64 4294967295, .int .u32 0, .pointer (some ⟨inn, 0, none⟩), .pointer (some ⟨win, 0, none⟩), .pointer (some ⟨que, 0, none⟩), .bool true, .int .i64 0] 248
def winO (pool : Nat) : Obj := .cells #[.pointer (some ⟨pool, 0, none⟩), .slice none 0 0, .int .i64 65535] 345
def queO (l : Value) : Obj := .cells #[l, .int .i64 40] 305
def brO (lo : Nat → Nat) : Obj := .cells (bC lo) 111
def FInt (es : Array MapEntry) (c : Int) (v : Value) : Prop := ∃ i, Instr.findNow (.int .i64) (.int .i64 c) es.toList 0 = some (some (i, v))
def FStr (es : Array MapEntry) (s : ByteArray) (v : Value) : Prop := ∃ i, Instr.findNow .string (.string s) es.toList 0 = some (some (i, v))
theorem brcells {w : World} {hb : Nat} {lo : Nat → Nat} (h : w.heap[hb]? = some (brO lo)) : w.cell? ⟨hb, 5, none⟩ = some (.pointer (some ⟨lo 1 + 1, 0, none⟩)) ∧ w.cell? ⟨hb, 6, none⟩ = some (.map (some (lo 2))) ∧ w.cell? ⟨hb, 7, none⟩ = some (.map (some (lo 3))) ∧ w.cell? ⟨hb, 8, none⟩ = some (.map (some (lo 4))) ∧ w.cell? ⟨hb, 9, none⟩ = some (.pointer (some ⟨lo 5 + 10, 0, none⟩)) ∧ w.cell? ⟨hb, 10, none⟩ = some (.pointer (some ⟨lo 8 + 1, 0, none⟩)) ∧ w.cell? ⟨hb, 11, none⟩ = some (.pointer (some ⟨lo 9 + 3, 0, none⟩)) ∧ w.cell? ⟨hb, 12, none⟩ = some (.pointer (some ⟨lo 10 + 1, 0, none⟩)) ∧ w.cell? ⟨hb, 13, none⟩ = some (.int .i64 0) ∧ w.cell? ⟨hb, 3, none⟩ = some (.int .i64 2000) ∧ w.cell? ⟨hb, 4, none⟩ = some (.int .u32 9) ∧ w.cell? ⟨hb, 1, none⟩ = some (.int .i64 30) ∧ w.cell? ⟨hb, 0, none⟩ = some (.int .i64 40) :=
  ⟨(blk_cell h 5).trans rfl, (blk_cell h 6).trans rfl, (blk_cell h 7).trans rfl, (blk_cell h 8).trans rfl, (blk_cell h 9).trans rfl, (blk_cell h 10).trans rfl, (blk_cell h 11).trans rfl, (blk_cell h 12).trans rfl, (blk_cell h 13).trans rfl, (blk_cell h 3).trans rfl, (blk_cell h 4).trans rfl, (blk_cell h 1).trans rfl, (blk_cell h 0).trans rfl⟩
section
variable {w : World} {b clock mt kt et : Nat} {es : Array MapEntry} {key v : Value} {K : TypeDesc}
theorem look_h0 {i : Nat} (ht : Tryz.prog.underlying mt = some (.map kt et)) (hk : Tryz.prog.underlying kt = some K) (hc : MapKept.IsKey K key) (hb : w.heap[b]? = some (.map es clock)) (hf : Instr.findNow K key es.toList 0 = some (some (i, v))) : (Instr.lookup mt (.map (some b)) key false).run Tryz.prog w = .ok v w := look_hit ht hk hc hb hf false
theorem look_m0 {z : Value} (ht : Tryz.prog.underlying mt = some (.map kt et)) (hk : Tryz.prog.underlying kt = some K) (hc : MapKept.IsKey K key) (hz : (zeroValue et).run Tryz.prog w = .ok z w) (hb : w.heap[b]? = some (.map es clock)) (hf : Instr.findNow K key es.toList 0 = some none) : (Instr.lookup mt (.map (some b)) key false).run Tryz.prog w = .ok z w := look_miss ht hk hc hz hb hf false
end
theorem idx_obj {L : List (Nat × Obj)} {i j a b : Nat} {o o' : Obj} (hi : L[i]? = some (a, o)) (hj : L[j]? = some (b, o')) (h : o ≠ o') : i ≠ j := fun e => by
  rw [e, hj] at hi
  injection hi with hi
  injection hi with _ hi
  exact h hi.symm
theorem cells_ne {c d : Array Value} {t u : TypeId} {x y : Nat × Nat} (h : t ≠ u) : Obj.cells c t x ≠ Obj.cells d u y := fun e => by
  injection e with _ e _
  exact h e
def HeldP (v : Value) (L : List (Nat × Obj)) (e : Ending) (w' : World) : Prop := e = .returned v ∧ Held w' L
theorem chg_cell (w : World) (b i : Nat) (u : Value) : Chg (fun k => k = b) w (w.setCell ⟨b, i, none⟩ u) := chg_setc' b i u
theorem bel_drewN {w : World} (n : Nat) : Below w.heap.size w (w.drewN n) := ⟨rfl, rfl, rfl, Nat.le_refl _, fun _ _ => rfl⟩
theorem netat_of {w : World} {L : List (Nat × Obj)} (H : Held w L) {i j n nm k : Nat} {es : Array MapEntry} {c : Int} {ci : Nat} (h4 : L[i]? = some (n, netO nm)) (h5 : L[j]? = some (nm, .map es k)) (hN : FInt es c (.pointer (some ⟨ci, 0, none⟩))) : NetAt w n nm es k c ci := ⟨H.get i h4, H.get j h5, hN⟩
set_option maxHeartbeats 4000000 in
theorem say_pub {w : World} {L : List (Nat × Obj)} {hb l rd tb k s inn win que nm kN ci came kk ff : Nat} {lo : Nat → Nat} {id : Int} {client sid wait said B txt : ByteArray} {es esN : Array MapEntry} {V : Value} (H : Held w L) {i0 i1 i2 i3 i4 i5 i6 : Nat}
    (h0 : L[i0]? = some (hb, brO lo)) (h1 : L[i1]? = some (l, linO id rd tb client true)) (h2 : L[i2]? = some (lo 3, .map es k)) (hes : FStr es client (.pointer (some ⟨s, 0, none⟩))) (h3 : L[i3]? = some (s, sesO sid inn win que)) (h4 : L[i4]? = some (lo 1 + 1, netO nm)) (h5 : L[i5]? = some (nm, .map esN kN)) (hN : FInt esN id (.pointer (some ⟨ci, 0, none⟩))) (h6 : L[i6]? = some (ci, connO wait came said)) (hz : said.size + txt.size ≤ 9223372036854775807)
    (hF : FrameIs w 45 V kk ff B 381) (hT : ∀ W, Below w.heap.size w W → Calls Tryz.prog 22 #[.iface 45 V] W (RB (.string txt) W)) (hB : B.size ≤ 100000) :
    Calls Tryz.prog 80 #[.pointer (some ⟨hb, 0, none⟩), .pointer (some ⟨l, 0, none⟩), .iface 45 V] w (HeldP (.tuple #[]) (L.set i6 (ci, connO wait came (said ++ txt)))) := by
  obtain ⟨b5, b6, b7, b8, b9, b10, b11, b12, b13, b3, b4, b1, b0⟩ := brcells (H.get i0 h0)
  obtain ⟨l0, l1, l2, l3, l4, l5⟩ := sixcell (H.get i1 h1)
  obtain ⟨q, hq⟩ := hes
  have hl := look_h0 (mt := 100) Tryz.underlying100 Tryz.underlying9 (by simp [MapKept.IsKey]) (H.get i2 h2) hq
  have HH := Lib.hid H
  have HS3 := Lib.hid h3
  have HI0 := Lib.hid h0
  have HI1 := Lib.hid h1
  have HI6 := Lib.hid h6
  have HI2 := Lib.hid h2
  have HQ := Lib.hid hq
  have HF := Lib.hid hF
  have HT := Lib.hid hT
  have HZ := Lib.hid hz
  have HX0 := Lib.hid (show i6 ≠ i0 from idx_obj h6 h0 (cells_ne (by decide)))
  have HX1 := Lib.hid (show i6 ≠ i1 from idx_obj h6 h1 (cells_ne (by decide)))
  have HNA := Lib.hid (fun W (h : Held W L) => netat_of h h4 h5 hN)
  obtain ⟨N, hN1, HS⟩ := fsz (n := B.size) hB
  have HS := Lib.hid HS
  have hd2 : decide ((4294967295 : Int) < (N : Int)) = false := decide_eq_false (by omega)
  have hm := method_pub V
  have hfd := field_body kk ff B
  unfold FrameIs FrPost fr at HF
  clear H h0 h1 h2 hq h3 h4 h5 hN h6 hF hT hz hN1
  go_enter Tryz.func80, Tryz.ntmps80
  go_upto_region 0 with (fail)
  have hld : (Instr.lookup 100 (.map (some (lo 3))) (.string client) false).run Tryz.prog w.drew = .ok (.pointer (some ⟨s, 0, none⟩)) w.drew := look_h0 (mt := 100) Tryz.underlying100 Tryz.underlying9 (by simp [MapKept.IsKey]) (HH.out.below (Below.refl w.heap.size w).drew |>.get i2 HI2.out) HQ.out
  go_region
  have HH1 := Lib.hid (HH.out.below (Below.refl w.heap.size w).drew)
  have HB1 := Lib.hid (Below.refl w.heap.size w).drew
  clear hld
  generalize w.drew = W1 at HH1 HB1 ⊢
  clear b5 b6 b7 b8 b9 b10 b11 b12 b13 b3 b4 b1 b0 l0 l1 l2 l3 l4 l5 hl
  obtain ⟨l0, l1, l2, l3, l4, l5⟩ := sixcell (HH1.out.get i1 HI1.out)
  obtain ⟨s0, s1, s2, s3, s4, s5, s6, s7, s8⟩ := ninecell (HH1.out.get i3 HS3.out)
  go_upto_region 1 with (fail)
  have HH2 := Lib.hid (HH1.out.below (Below.refl W1.heap.size W1).drew)
  have HB2 := Lib.hid (Below.into HB1.out (Below.refl W1.heap.size W1).drew)
  go_region_held3 (fun w' => w'.cell? ⟨l, 4, none⟩ = some (.bool true) ∧ w'.cell? ⟨s, 2, none⟩ = some (.int .i64 4294967295)) (first | exact ⟨l4, s2⟩ | go_keep) (first
    | (go_at_call 381; (with_reducible refine (HF.out _ HB2.out).mono ?_); rintro e w1 ⟨rfl, hb⟩; have HH3 := Lib.hid (HH2.out.below hb); have HB3 := Lib.hid (Below.into HB2.out hb); clear hb; clear l0 l1 l2 l3 l4 l5 s0 s1 s2 s3 s4 s5 s6 s7 s8; obtain ⟨l0, l1, l2, l3, l4, l5⟩ := sixcell (HH3.out.get i1 HI1.out); obtain ⟨s0, s1, s2, s3, s4, s5, s6, s7, s8⟩ := ninecell (HH3.out.get i3 HS3.out))
    | (go_at_call 67; (with_reducible refine (HS.out _).mono ?_); rintro e w2 ⟨rfl, hb⟩; have HH4 := Lib.hid (HH3.out.below hb); have HB4 := Lib.hid (Below.into HB3.out hb); clear hb; clear l0 l1 l2 l3 l4 l5 s0 s1 s2 s3 s4 s5 s6 s7 s8; obtain ⟨l0, l1, l2, l3, l4, l5⟩ := sixcell (HH4.out.get i1 HI1.out); obtain ⟨s0, s1, s2, s3, s4, s5, s6, s7, s8⟩ := ninecell (HH4.out.get i3 HS3.out)))
  clear l0 l1 l2 l3 l4 l5 s0 s1 s2 s3 s4 s5 s6 s7 s8
  obtain ⟨l0, l1, l2, l3, l4, l5⟩ := sixcell (HH4.out.get i1 HI1.out)
  obtain ⟨b5, b6, b7, b8, b9, b10, b11, b12, b13, b3, b4, b1, b0⟩ := brcells (HH4.out.get i0 HI0.out)
  clear b6 b7 b8 b9 b10 b11 b12 b13 b3 b4 b1 b0 HS HF HH1 HH2 HH3 HB1 HB2 HB3
  go_upto_region 2 with (fail)
  have HH5 := Lib.hid (HH4.out.below (Below.refl w2.heap.size w2).drew)
  have HB5 := Lib.hid (Below.into HB4.out (Below.refl w2.heap.size w2).drew)
  go_region_held3 (fun w' => w'.cell? ⟨hb, 5, none⟩ = some (.pointer (some ⟨lo 1 + 1, 0, none⟩)) ∧ w'.cell? ⟨l, 0, none⟩ = some (.int .i64 id)) (first | exact ⟨b5, l0⟩ | go_keep) (first
    | (go_at_call 22; (with_reducible refine (HT.out _ HB5.out).mono ?_); rintro e w6 ⟨rfl, hb⟩; have HH6 := Lib.hid (HH5.out.below hb); clear hb; clear b5 l0 l1 l2 l3 l4 l5; obtain ⟨l0, l1, l2, l3, l4, l5⟩ := sixcell (HH6.out.get i1 HI1.out); have b5 := (brcells (HH6.out.get i0 HI0.out)).1; have HCN := Lib.hid (show Conn w6 ci wait came said from HH6.out.get i6 HI6.out); have HNT := Lib.hid (HNA.out _ HH6.out))
    | (go_at_call 122; (with_reducible refine (say_calls HNT.out HCN.out HZ.out).mono ?_); rintro e w7 ⟨rfl, rfl⟩; have HH7 := Lib.hid (show Held (w6.setCell ⟨ci, 3, none⟩ (.string (said ++ txt))) (L.set i6 (ci, connO wait came (said ++ txt))) from HH6.out.set i6 HI6.out (chg_cell _ ci 3 (.string (said ++ txt))) (blk_put (HH6.out.get i6 HI6.out) 3 (.string (said ++ txt)) rfl)); generalize w6.setCell ⟨ci, 3, none⟩ (.string (said ++ txt)) = W7 at HH7 ⊢; clear b5 l0 l1 l2 l3 l4 l5; obtain ⟨l0, l1, l2, l3, l4, l5⟩ := sixcell (HH7.out.get i1 (set_other HI1.out HX1.out)); have b5 := (brcells (HH7.out.get i0 (set_other HI0.out HX0.out))).1))
  go_end0
  exact ⟨rfl, HH7.out⟩
set_option maxHeartbeats 4000000 in
theorem say_ck {w : World} {L : List (Nat × Obj)} {hb l rd tb k s inn win que nm kN ci came kk ff : Nat} {lo : Nat → Nat} {id : Int} {client sid wait said B txt : ByteArray} {es esN : Array MapEntry} {V : Value} (H : Held w L) {i0 i1 i2 i3 i4 i5 i6 : Nat}
    (h0 : L[i0]? = some (hb, brO lo)) (h1 : L[i1]? = some (l, linO id rd tb client true)) (h2 : L[i2]? = some (lo 3, .map es k)) (hes : FStr es client (.pointer (some ⟨s, 0, none⟩))) (h3 : L[i3]? = some (s, sesO sid inn win que)) (h4 : L[i4]? = some (lo 1 + 1, netO nm)) (h5 : L[i5]? = some (nm, .map esN kN)) (hN : FInt esN id (.pointer (some ⟨ci, 0, none⟩))) (h6 : L[i6]? = some (ci, connO wait came said)) (hz : said.size + txt.size ≤ 9223372036854775807)
    (hF : FrameIs w 78 V kk ff B 393) (hT : ∀ W, Below w.heap.size w W → Calls Tryz.prog 22 #[.iface 78 V] W (RB (.string txt) W)) (hB : B.size ≤ 100000) :
    Calls Tryz.prog 80 #[.pointer (some ⟨hb, 0, none⟩), .pointer (some ⟨l, 0, none⟩), .iface 78 V] w (HeldP (.tuple #[]) (L.set i6 (ci, connO wait came (said ++ txt)))) := by
  obtain ⟨b5, b6, b7, b8, b9, b10, b11, b12, b13, b3, b4, b1, b0⟩ := brcells (H.get i0 h0)
  obtain ⟨l0, l1, l2, l3, l4, l5⟩ := sixcell (H.get i1 h1)
  obtain ⟨q, hq⟩ := hes
  have hl := look_h0 (mt := 100) Tryz.underlying100 Tryz.underlying9 (by simp [MapKept.IsKey]) (H.get i2 h2) hq
  have HH := Lib.hid H
  have HS3 := Lib.hid h3
  have HI0 := Lib.hid h0
  have HI1 := Lib.hid h1
  have HI6 := Lib.hid h6
  have HI2 := Lib.hid h2
  have HQ := Lib.hid hq
  have HF := Lib.hid hF
  have HT := Lib.hid hT
  have HZ := Lib.hid hz
  have HX0 := Lib.hid (show i6 ≠ i0 from idx_obj h6 h0 (cells_ne (by decide)))
  have HX1 := Lib.hid (show i6 ≠ i1 from idx_obj h6 h1 (cells_ne (by decide)))
  have HNA := Lib.hid (fun W (h : Held W L) => netat_of h h4 h5 hN)
  obtain ⟨N, hN1, HS⟩ := fsz (n := B.size) hB
  have HS := Lib.hid HS
  have hd2 : decide ((4294967295 : Int) < (N : Int)) = false := decide_eq_false (by omega)
  have hm := method_95 V
  have hfd := field_body kk ff B
  unfold FrameIs FrPost fr at HF
  clear H h0 h1 h2 hq h3 h4 h5 hN h6 hF hT hz hN1
  go_enter Tryz.func80, Tryz.ntmps80
  go_upto_region 0 with (fail)
  have hld : (Instr.lookup 100 (.map (some (lo 3))) (.string client) false).run Tryz.prog w.drew = .ok (.pointer (some ⟨s, 0, none⟩)) w.drew := look_h0 (mt := 100) Tryz.underlying100 Tryz.underlying9 (by simp [MapKept.IsKey]) (HH.out.below (Below.refl w.heap.size w).drew |>.get i2 HI2.out) HQ.out
  go_region
  have HH1 := Lib.hid (HH.out.below (Below.refl w.heap.size w).drew)
  have HB1 := Lib.hid (Below.refl w.heap.size w).drew
  clear hld
  generalize w.drew = W1 at HH1 HB1 ⊢
  clear b5 b6 b7 b8 b9 b10 b11 b12 b13 b3 b4 b1 b0 l0 l1 l2 l3 l4 l5 hl
  obtain ⟨l0, l1, l2, l3, l4, l5⟩ := sixcell (HH1.out.get i1 HI1.out)
  obtain ⟨s0, s1, s2, s3, s4, s5, s6, s7, s8⟩ := ninecell (HH1.out.get i3 HS3.out)
  go_upto_region 1 with (fail)
  have HH2 := Lib.hid (HH1.out.below (Below.refl W1.heap.size W1).drew)
  have HB2 := Lib.hid (Below.into HB1.out (Below.refl W1.heap.size W1).drew)
  go_region_held3 (fun w' => w'.cell? ⟨l, 4, none⟩ = some (.bool true) ∧ w'.cell? ⟨s, 2, none⟩ = some (.int .i64 4294967295)) (first | exact ⟨l4, s2⟩ | go_keep) (first
    | (go_at_call 393; (with_reducible refine (HF.out _ HB2.out).mono ?_); rintro e w1 ⟨rfl, hb⟩; have HH3 := Lib.hid (HH2.out.below hb); have HB3 := Lib.hid (Below.into HB2.out hb); clear hb; clear l0 l1 l2 l3 l4 l5 s0 s1 s2 s3 s4 s5 s6 s7 s8; obtain ⟨l0, l1, l2, l3, l4, l5⟩ := sixcell (HH3.out.get i1 HI1.out); obtain ⟨s0, s1, s2, s3, s4, s5, s6, s7, s8⟩ := ninecell (HH3.out.get i3 HS3.out))
    | (go_at_call 67; (with_reducible refine (HS.out _).mono ?_); rintro e w2 ⟨rfl, hb⟩; have HH4 := Lib.hid (HH3.out.below hb); have HB4 := Lib.hid (Below.into HB3.out hb); clear hb; clear l0 l1 l2 l3 l4 l5 s0 s1 s2 s3 s4 s5 s6 s7 s8; obtain ⟨l0, l1, l2, l3, l4, l5⟩ := sixcell (HH4.out.get i1 HI1.out); obtain ⟨s0, s1, s2, s3, s4, s5, s6, s7, s8⟩ := ninecell (HH4.out.get i3 HS3.out)))
  clear l0 l1 l2 l3 l4 l5 s0 s1 s2 s3 s4 s5 s6 s7 s8
  obtain ⟨l0, l1, l2, l3, l4, l5⟩ := sixcell (HH4.out.get i1 HI1.out)
  obtain ⟨b5, b6, b7, b8, b9, b10, b11, b12, b13, b3, b4, b1, b0⟩ := brcells (HH4.out.get i0 HI0.out)
  clear b6 b7 b8 b9 b10 b11 b12 b13 b3 b4 b1 b0 HS HF HH1 HH2 HH3 HB1 HB2 HB3
  go_upto_region 2 with (fail)
  have HH5 := Lib.hid (HH4.out.below (Below.refl w2.heap.size w2).drew)
  have HB5 := Lib.hid (Below.into HB4.out (Below.refl w2.heap.size w2).drew)
  go_region_held3 (fun w' => w'.cell? ⟨hb, 5, none⟩ = some (.pointer (some ⟨lo 1 + 1, 0, none⟩)) ∧ w'.cell? ⟨l, 0, none⟩ = some (.int .i64 id)) (first | exact ⟨b5, l0⟩ | go_keep) (first
    | (go_at_call 22; (with_reducible refine (HT.out _ HB5.out).mono ?_); rintro e w6 ⟨rfl, hb⟩; have HH6 := Lib.hid (HH5.out.below hb); clear hb; clear b5 l0 l1 l2 l3 l4 l5; obtain ⟨l0, l1, l2, l3, l4, l5⟩ := sixcell (HH6.out.get i1 HI1.out); have b5 := (brcells (HH6.out.get i0 HI0.out)).1; have HCN := Lib.hid (show Conn w6 ci wait came said from HH6.out.get i6 HI6.out); have HNT := Lib.hid (HNA.out _ HH6.out))
    | (go_at_call 122; (with_reducible refine (say_calls HNT.out HCN.out HZ.out).mono ?_); rintro e w7 ⟨rfl, rfl⟩; have HH7 := Lib.hid (show Held (w6.setCell ⟨ci, 3, none⟩ (.string (said ++ txt))) (L.set i6 (ci, connO wait came (said ++ txt))) from HH6.out.set i6 HI6.out (chg_cell _ ci 3 (.string (said ++ txt))) (blk_put (HH6.out.get i6 HI6.out) 3 (.string (said ++ txt)) rfl)); generalize w6.setCell ⟨ci, 3, none⟩ (.string (said ++ txt)) = W7 at HH7 ⊢; clear b5 l0 l1 l2 l3 l4 l5; obtain ⟨l0, l1, l2, l3, l4, l5⟩ := sixcell (HH7.out.get i1 (set_other HI1.out HX1.out)); have b5 := (brcells (HH7.out.get i0 (set_other HI0.out HX0.out))).1))
  go_end0
  exact ⟨rfl, HH7.out⟩
set_option maxHeartbeats 4000000 in
theorem say_su {w : World} {L : List (Nat × Obj)} {hb l rd tb k s inn win que nm kN ci came kk ff : Nat} {lo : Nat → Nat} {id : Int} {client sid wait said B txt : ByteArray} {es esN : Array MapEntry} {V : Value} (H : Held w L) {i0 i1 i2 i3 i4 i5 i6 : Nat}
    (h0 : L[i0]? = some (hb, brO lo)) (h1 : L[i1]? = some (l, linO id rd tb client true)) (h2 : L[i2]? = some (lo 3, .map es k)) (hes : FStr es client (.pointer (some ⟨s, 0, none⟩))) (h3 : L[i3]? = some (s, sesO sid inn win que)) (h4 : L[i4]? = some (lo 1 + 1, netO nm)) (h5 : L[i5]? = some (nm, .map esN kN)) (hN : FInt esN id (.pointer (some ⟨ci, 0, none⟩))) (h6 : L[i6]? = some (ci, connO wait came said)) (hz : said.size + txt.size ≤ 9223372036854775807)
    (hF : FrameIs w 270 V kk ff B 414) (hT : ∀ W, Below w.heap.size w W → Calls Tryz.prog 22 #[.iface 270 V] W (RB (.string txt) W)) (hB : B.size ≤ 100000) :
    Calls Tryz.prog 80 #[.pointer (some ⟨hb, 0, none⟩), .pointer (some ⟨l, 0, none⟩), .iface 270 V] w (HeldP (.tuple #[]) (L.set i6 (ci, connO wait came (said ++ txt)))) := by
  obtain ⟨b5, b6, b7, b8, b9, b10, b11, b12, b13, b3, b4, b1, b0⟩ := brcells (H.get i0 h0)
  obtain ⟨l0, l1, l2, l3, l4, l5⟩ := sixcell (H.get i1 h1)
  obtain ⟨q, hq⟩ := hes
  have hl := look_h0 (mt := 100) Tryz.underlying100 Tryz.underlying9 (by simp [MapKept.IsKey]) (H.get i2 h2) hq
  have HH := Lib.hid H
  have HS3 := Lib.hid h3
  have HI0 := Lib.hid h0
  have HI1 := Lib.hid h1
  have HI6 := Lib.hid h6
  have HI2 := Lib.hid h2
  have HQ := Lib.hid hq
  have HF := Lib.hid hF
  have HT := Lib.hid hT
  have HZ := Lib.hid hz
  have HX0 := Lib.hid (show i6 ≠ i0 from idx_obj h6 h0 (cells_ne (by decide)))
  have HX1 := Lib.hid (show i6 ≠ i1 from idx_obj h6 h1 (cells_ne (by decide)))
  have HNA := Lib.hid (fun W (h : Held W L) => netat_of h h4 h5 hN)
  obtain ⟨N, hN1, HS⟩ := fsz (n := B.size) hB
  have HS := Lib.hid HS
  have hd2 : decide ((4294967295 : Int) < (N : Int)) = false := decide_eq_false (by omega)
  have hm := method_140 V
  have hfd := field_body kk ff B
  unfold FrameIs FrPost fr at HF
  clear H h0 h1 h2 hq h3 h4 h5 hN h6 hF hT hz hN1
  go_enter Tryz.func80, Tryz.ntmps80
  go_upto_region 0 with (fail)
  have hld : (Instr.lookup 100 (.map (some (lo 3))) (.string client) false).run Tryz.prog w.drew = .ok (.pointer (some ⟨s, 0, none⟩)) w.drew := look_h0 (mt := 100) Tryz.underlying100 Tryz.underlying9 (by simp [MapKept.IsKey]) (HH.out.below (Below.refl w.heap.size w).drew |>.get i2 HI2.out) HQ.out
  go_region
  have HH1 := Lib.hid (HH.out.below (Below.refl w.heap.size w).drew)
  have HB1 := Lib.hid (Below.refl w.heap.size w).drew
  clear hld
  generalize w.drew = W1 at HH1 HB1 ⊢
  clear b5 b6 b7 b8 b9 b10 b11 b12 b13 b3 b4 b1 b0 l0 l1 l2 l3 l4 l5 hl
  obtain ⟨l0, l1, l2, l3, l4, l5⟩ := sixcell (HH1.out.get i1 HI1.out)
  obtain ⟨s0, s1, s2, s3, s4, s5, s6, s7, s8⟩ := ninecell (HH1.out.get i3 HS3.out)
  go_upto_region 1 with (fail)
  have HH2 := Lib.hid (HH1.out.below (Below.refl W1.heap.size W1).drew)
  have HB2 := Lib.hid (Below.into HB1.out (Below.refl W1.heap.size W1).drew)
  go_region_held3 (fun w' => w'.cell? ⟨l, 4, none⟩ = some (.bool true) ∧ w'.cell? ⟨s, 2, none⟩ = some (.int .i64 4294967295)) (first | exact ⟨l4, s2⟩ | go_keep) (first
    | (go_at_call 414; (with_reducible refine (HF.out _ HB2.out).mono ?_); rintro e w1 ⟨rfl, hb⟩; have HH3 := Lib.hid (HH2.out.below hb); have HB3 := Lib.hid (Below.into HB2.out hb); clear hb; clear l0 l1 l2 l3 l4 l5 s0 s1 s2 s3 s4 s5 s6 s7 s8; obtain ⟨l0, l1, l2, l3, l4, l5⟩ := sixcell (HH3.out.get i1 HI1.out); obtain ⟨s0, s1, s2, s3, s4, s5, s6, s7, s8⟩ := ninecell (HH3.out.get i3 HS3.out))
    | (go_at_call 67; (with_reducible refine (HS.out _).mono ?_); rintro e w2 ⟨rfl, hb⟩; have HH4 := Lib.hid (HH3.out.below hb); have HB4 := Lib.hid (Below.into HB3.out hb); clear hb; clear l0 l1 l2 l3 l4 l5 s0 s1 s2 s3 s4 s5 s6 s7 s8; obtain ⟨l0, l1, l2, l3, l4, l5⟩ := sixcell (HH4.out.get i1 HI1.out); obtain ⟨s0, s1, s2, s3, s4, s5, s6, s7, s8⟩ := ninecell (HH4.out.get i3 HS3.out)))
  clear l0 l1 l2 l3 l4 l5 s0 s1 s2 s3 s4 s5 s6 s7 s8
  obtain ⟨l0, l1, l2, l3, l4, l5⟩ := sixcell (HH4.out.get i1 HI1.out)
  obtain ⟨b5, b6, b7, b8, b9, b10, b11, b12, b13, b3, b4, b1, b0⟩ := brcells (HH4.out.get i0 HI0.out)
  clear b6 b7 b8 b9 b10 b11 b12 b13 b3 b4 b1 b0 HS HF HH1 HH2 HH3 HB1 HB2 HB3
  go_upto_region 2 with (fail)
  have HH5 := Lib.hid (HH4.out.below (Below.refl w2.heap.size w2).drew)
  have HB5 := Lib.hid (Below.into HB4.out (Below.refl w2.heap.size w2).drew)
  go_region_held3 (fun w' => w'.cell? ⟨hb, 5, none⟩ = some (.pointer (some ⟨lo 1 + 1, 0, none⟩)) ∧ w'.cell? ⟨l, 0, none⟩ = some (.int .i64 id)) (first | exact ⟨b5, l0⟩ | go_keep) (first
    | (go_at_call 22; (with_reducible refine (HT.out _ HB5.out).mono ?_); rintro e w6 ⟨rfl, hb⟩; have HH6 := Lib.hid (HH5.out.below hb); clear hb; clear b5 l0 l1 l2 l3 l4 l5; obtain ⟨l0, l1, l2, l3, l4, l5⟩ := sixcell (HH6.out.get i1 HI1.out); have b5 := (brcells (HH6.out.get i0 HI0.out)).1; have HCN := Lib.hid (show Conn w6 ci wait came said from HH6.out.get i6 HI6.out); have HNT := Lib.hid (HNA.out _ HH6.out))
    | (go_at_call 122; (with_reducible refine (say_calls HNT.out HCN.out HZ.out).mono ?_); rintro e w7 ⟨rfl, rfl⟩; have HH7 := Lib.hid (show Held (w6.setCell ⟨ci, 3, none⟩ (.string (said ++ txt))) (L.set i6 (ci, connO wait came (said ++ txt))) from HH6.out.set i6 HI6.out (chg_cell _ ci 3 (.string (said ++ txt))) (blk_put (HH6.out.get i6 HI6.out) 3 (.string (said ++ txt)) rfl)); generalize w6.setCell ⟨ci, 3, none⟩ (.string (said ++ txt)) = W7 at HH7 ⊢; clear b5 l0 l1 l2 l3 l4 l5; obtain ⟨l0, l1, l2, l3, l4, l5⟩ := sixcell (HH7.out.get i1 (set_other HI1.out HX1.out)); have b5 := (brcells (HH7.out.get i0 (set_other HI0.out HX0.out))).1))
  go_end0
  exact ⟨rfl, HH7.out⟩
end Go.Proofs.YtbfgpkogginmjaaGreatDoor
end
section
namespace Go.Proofs.YtbfgpkogginmjaaGreatDoor
open Go.RowKit Go.Lib Go.Proofs.YtbfgpkogginmjaaGreatDoorW.PrintWords Go.Proofs.YtbfgpkogginmjaaGreatDoor.PSwitchboardGreat
set_option linter.unusedVariables false
set_option linter.unusedSimpArgs false
set_option maxRecDepth 1000000
def suakV : Value := .agg #[.int .i64 9, .int .u32 1, .slice none 0 0, .string ⟨#[0]⟩]
def suakB : ByteArray := toB ((([] ++ be2 (1 % 65536)) ++ putB []) ++ (⟨#[0]⟩ : ByteArray).data.toList)
theorem putB_nil : putB [] = [0] := by
  unfold putB
  rw [show (propsB []).length = 0 from rfl, varU_lt (by decide)]
  rfl
theorem suakB_size : suakB.size = 4 := by
  unfold suakB
  rw [toB_size, putB_nil]
  rfl
theorem suak_frame (w : World) : FrameIs w 270 suakV 9 0 suakB 414 := fun W hb => subackframe_calls (k := 9) (id := 1) (c := 0) (A := none) (L := []) (s := ⟨#[0]⟩) (Lib.hid (fun W2 hb2 => subacktext_calls (k := 9) (id := 1) (c := 0) (A := none) (L := []) (s := ⟨#[0]⟩) (by decide) lok_nil (Nat.le_refl 0) (pl_nil W2) (by decide)))
theorem suak_text (w : World) : Calls Tryz.prog 22 #[.iface 270 suakV] w (RB (.string (toB (frB 9 0 suakB))) w) := text_140 _ 9 0 _ (by decide) (by decide) (by rw [suakB_size]; decide) (suak_frame w)
def ckL : List PR := [⟨33, 30, ⟨#[]⟩, ⟨#[]⟩⟩, ⟨39, 2000, ⟨#[]⟩, ⟨#[]⟩⟩, ⟨34, 9, ⟨#[]⟩, ⟨#[]⟩⟩]
def ckD : CD := ⟨false, 0, ckL⟩
def ckV (B c : Nat) : Value := .agg #[.bool false, .int .u8 0, .slice (some ⟨B, 0, none⟩) 3 c]
def ckB : ByteArray := toB ckD.body
theorem ck_pl {w : World} {B : Nat} (h : Row1 w B 38 #[.int .i64 33, .int .u32 30, .string ⟨#[]⟩, .string ⟨#[]⟩, .int .i64 39, .int .u32 2000, .string ⟨#[]⟩, .string ⟨#[]⟩, .int .i64 34, .int .u32 9, .string ⟨#[]⟩, .string ⟨#[]⟩]) : PL w (some ⟨B, 0, none⟩) ckL := by
  refine ⟨rfl, by decide, fun _ => ⟨⟨B, 0, none⟩, rfl, fun j p hp => ?_⟩⟩
  have hcell : ∀ i u, (#[Value.int .i64 33, .int .u32 30, .string ⟨#[]⟩, .string ⟨#[]⟩, .int .i64 39, .int .u32 2000, .string ⟨#[]⟩, .string ⟨#[]⟩, .int .i64 34, .int .u32 9, .string ⟨#[]⟩, .string ⟨#[]⟩] : Array Value)[i]? = some u → w.cell? ⟨B, i, none⟩ = some u := fun i u hu => h.cell i u hu
  have hj : j = 0 ∨ j = 1 ∨ j = 2 := by
    have := (List.getElem?_eq_some_iff.1 hp).1
    have h3 : (List.map PR.m ckL).length = 3 := rfl
    omega
  rcases hj with rfl | rfl | rfl
  · obtain rfl : (⟨33, 30, ⟨#[]⟩, ⟨#[]⟩⟩ : S144) = p := Option.some.inj hp
    exact ⟨_, rfl, k144_mk w _, fun i u hu => by
      have := (List.getElem?_eq_some_iff.1 hu).1
      have h4 : i < 4 := this
      rcases (show i = 0 ∨ i = 1 ∨ i = 2 ∨ i = 3 by omega) with rfl | rfl | rfl | rfl <;> exact hcell _ _ hu⟩
  · obtain rfl : (⟨39, 2000, ⟨#[]⟩, ⟨#[]⟩⟩ : S144) = p := Option.some.inj hp
    exact ⟨_, rfl, k144_mk w _, fun i u hu => by
      have := (List.getElem?_eq_some_iff.1 hu).1
      have h4 : i < 4 := this
      rcases (show i = 0 ∨ i = 1 ∨ i = 2 ∨ i = 3 by omega) with rfl | rfl | rfl | rfl <;> exact hcell _ _ hu⟩
  · obtain rfl : (⟨34, 9, ⟨#[]⟩, ⟨#[]⟩⟩ : S144) = p := Option.some.inj hp
    exact ⟨_, rfl, k144_mk w _, fun i u hu => by
      have := (List.getElem?_eq_some_iff.1 hu).1
      have h4 : i < 4 := this
      rcases (show i = 0 ∨ i = 1 ∨ i = 2 ∨ i = 3 by omega) with rfl | rfl | rfl | rfl <;> exact hcell _ _ hu⟩
end Go.Proofs.YtbfgpkogginmjaaGreatDoor
end

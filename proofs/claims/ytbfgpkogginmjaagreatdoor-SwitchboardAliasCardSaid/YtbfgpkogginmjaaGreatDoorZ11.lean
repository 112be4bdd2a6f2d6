/- Parts of a proof about aliases: HC. -/
import Derived.IntWalk
import Derived.Test.YtbfgpkogginmjaaGreatDoorZ9
section
namespace Go.Proofs.YtbfgpkogginmjaaGreatDoor
open Go.RowKit Go.Lib Go.Proofs.YtbfgpkogginmjaaGreatDoorW.PrintWords Go.Proofs.YtbfgpkogginmjaaGreatDoor.PSwitchboardGreat
set_option linter.unusedVariables false
set_option linter.unusedSimpArgs false
structure PD where
  dup : Bool
  ret : Bool
  q : Nat
  id : Nat
  L : List PR
  T : ByteArray
  P : ByteArray
structure LOk (L : List PR) : Prop where
  ok : ∀ p ∈ L, p.Ok
  sz : (propsB L).length ≤ 100000
  len : L.length ≤ 1000000
structure PD.Ok (d : PD) : Prop where
  q : d.q < 4
  id : d.id ≤ 4294967295
  L : LOk d.L
  T : d.T.size ≤ 65535
  P : d.P.size ≤ 200000
def PD.v (d : PD) (A : Option Addr) (c : Nat) : Value := .agg #[.bool d.dup, .bool d.ret, .int .u8 (d.q : Nat), .int .u32 (d.id : Nat), .slice A d.L.length c, .string d.T, .string d.P]
def PD.fl (d : PD) : Nat := d.q * 2 + (if d.dup then 8 else 0) + (if d.ret then 1 else 0)
def PD.body (d : PD) : List UInt8 := dat d.T ++ ((if 0 < d.q then be2 (d.id % 65536) else []) ++ (putB d.L ++ d.P.data.toList))
theorem fl_bits (q : Nat) (h : q < 4) : Go.bits .and .u8 (q : Int) 3 = (q : Int) ∧ Go.bits .or .i64 ((q : Int) * 2) 8 = (q : Int) * 2 + 8 ∧ Go.bits .or .i64 ((q : Int) * 2) 1 = (q : Int) * 2 + 1 ∧ Go.bits .or .i64 ((q : Int) * 2 + 8) 1 = (q : Int) * 2 + 8 + 1 := by
  rcases (show q = 0 ∨ q = 1 ∨ q = 2 ∨ q = 3 by omega) with rfl | rfl | rfl | rfl <;> decide +kernel
set_option maxHeartbeats 1000000 in
set_option maxRecDepth 1000000 in
theorem flags_calls {w : World} (d : PD) (A : Option Addr) (c : Nat) (hq : d.q < 4) : Calls Tryz.prog 380 #[d.v A c] w fun e w' => e = .returned (.int .i64 (d.fl : Nat)) ∧ Below w.heap.size w w' := by
  obtain ⟨dup, ret, q, id, L, T, P⟩ := d
  unfold PD.v PD.fl
  simp only at hq ⊢
  obtain ⟨b1, b2, b3, b4⟩ := fl_bits q hq
  have HF := Lib.hid (show Below w.heap.size w (w.alloc (.cells #[.bool dup, .bool ret, .int .u8 (q : Nat), .int .u32 (id : Nat), .slice A L.length c, .string T, .string P] 42)) from (Below.refl _ _).alloc (Nat.le_refl _) _)
  cases dup <;> cases ret
  all_goals
    go_enter Tryz.func380, Tryz.ntmps380
    go_wp2
    go_ret
    exact ⟨by first | rfl | (simp; done) | (simp; rfl), HF.out⟩
theorem pbcell {w : World} {bx : Nat} {t : TypeId} {a0 a1 a2 a3 a4 a5 a6 : Value} (h : w.heap[bx]? = some (.cells #[a0, a1, a2, a3, a4, a5, a6] t (0, 0))) : w.cell? ⟨bx, 0, none⟩ = some a0 ∧ w.cell? ⟨bx, 1, none⟩ = some a1 ∧ w.cell? ⟨bx, 2, none⟩ = some a2 ∧ w.cell? ⟨bx, 3, none⟩ = some a3 ∧ w.cell? ⟨bx, 4, none⟩ = some a4 ∧ w.cell? ⟨bx, 5, none⟩ = some a5 ∧ w.cell? ⟨bx, 6, none⟩ = some a6 :=
  ⟨(blk_cell h 0).trans rfl, (blk_cell h 1).trans rfl, (blk_cell h 2).trans rfl, (blk_cell h 3).trans rfl, (blk_cell h 4).trans rfl, (blk_cell h 5).trans rfl, (blk_cell h 6).trans rfl⟩
theorem putB_len (L : List PR) (h : (propsB L).length ≤ 100000) : (putB L).length ≤ 100004 := by
  unfold putB
  have := varU_5 (propsB L).length (by omega)
  rw [List.length_append]
  omega
set_option maxHeartbeats 4000000 in
set_option maxRecDepth 1000000 in
theorem pubtext_calls {w : World} (d : PD) (A : Option Addr) (c : Nat) (hd : d.Ok) (hc : d.L.length ≤ c) (hL : PL w A d.L) : Calls Tryz.prog 382 #[d.v A c] w fun e w' => e = .returned (.string (toB d.body)) ∧ Below w.heap.size w w' := by
  obtain ⟨dup, ret, q, id, L, T, P⟩ := d
  obtain ⟨hq, hid, ⟨hok, hsz, hll⟩, hT, hP⟩ := hd
  unfold PD.v
  simp only at hq hid hok hsz hll hT hP hc hL ⊢
  have HBODY := Lib.hid (show PD.body ⟨dup, ret, q, id, L, T, P⟩ = dat T ++ ((if 0 < q then be2 (id % 65536) else []) ++ (putB L ++ P.data.toList)) from rfl)
  generalize PD.body ⟨dup, ret, q, id, L, T, P⟩ = BODY at HBODY ⊢
  have HOK := Lib.hid hok
  have HSZ := Lib.hid hsz
  have HPL := Lib.hid hL
  have HPUT := Lib.hid (putB_len L hsz)
  have HDL := Lib.hid (dat_len T)
  have HX := Lib.hid (show ((w.alloc (.cells #[.bool dup, .bool ret, .int .u8 (q : Nat), .int .u32 (id : Nat), .slice A L.length c, .string T, .string P] 42)).alloc (.cells #[.slice none 0 0] 59)).heap[w.heap.size]? = some (.cells #[.bool dup, .bool ret, .int .u8 (q : Nat), .int .u32 (id : Nat), .slice A L.length c, .string T, .string P] 42 (0, 0)) from blk_alloc (heap_alloc_new w _) _)
  have HN := Lib.hid (show OW ((w.alloc (.cells #[.bool dup, .bool ret, .int .u8 (q : Nat), .int .u32 (id : Nat), .slice A L.length c, .string T, .string P] 42)).alloc (.cells #[.slice none 0 0] 59)) (w.heap.size + 1) (fun k => w.heap.size ≤ k) [] by
    have := OW.new (w.alloc (.cells #[.bool dup, .bool ret, .int .u8 (q : Nat), .int .u32 (id : Nat), .slice A L.length c, .string T, .string P] 42)) (fun k => w.heap.size ≤ k)
    rw [World.size_alloc] at this
    exact this)
  have HB := Lib.hid (show Below w.heap.size w ((w.alloc (.cells #[.bool dup, .bool ret, .int .u8 (q : Nat), .int .u32 (id : Nat), .slice A L.length c, .string T, .string P] 42)).alloc (.cells #[.slice none 0 0] 59)) from ((Below.refl _ _).alloc (Nat.le_refl _) _).alloc (by rw [World.size_alloc]; omega) _)
  have HSB := Lib.hid HB.out.size
  clear hok hsz hL
  by_cases h0 : 0 < q
  · have hq1 : decide ((0 : Int) < (q : Int)) = true := decide_eq_true (by omega)
    have HBO := HBODY.out
    rw [if_pos h0] at HBO
    have HBODY2 := Lib.hid HBO
    clear HBO HBODY
    go_enter Tryz.func382, Tryz.ntmps382
    go_wp2_with (first
      | (go_at_call 383; refine (data_calls HN.out HSB.out (by show 0 ≤ 900000; omega) T hT).mono ?_; rintro e w1 ⟨rfl, ho, hc1⟩; have HO1 := Lib.hid ho; have hx := Ch5.blk hc1 HX.out (by omega) (by decide); have HX1 := Lib.hid hx; have HB1 := Lib.hid (HB.out.trans (hc1.to_below HSB.out (by omega) (fun _ h => h))); obtain ⟨x0, x1, x2, x3, x4, x5, x6⟩ := pbcell hx; clear ho hc1 hx)
      | (go_at_call 384; refine (two_calls HO1.out (fun k hk => Nat.le_trans HB1.out.size hk) (by have := HDL.out; unfold dat at this; rw [List.nil_append]; omega) id hid).mono ?_; rintro e w2 ⟨rfl, ho, hc1⟩; have HO2 := Lib.hid ho; have hx := Ch5.blk hc1 HX1.out (by omega) (by decide); have HX2 := Lib.hid hx; have HB2 := Lib.hid (HB1.out.trans (hc1.to_below HB1.out.size (by omega) (fun _ h => h))); obtain ⟨y0, y1, y2, y3, y4, y5, y6⟩ := pbcell hx; clear ho hc1 hx)
      | (go_at_call 385; refine (Put_calls HO2.out HB2.out.size (by have := HDL.out; unfold dat at this; rw [List.nil_append, List.length_append]; simp only [be2, List.length_cons, List.length_nil] at this ⊢; omega) A c L hc (HPL.out.to HB2.out) HOK.out HSZ.out hll).mono ?_; rintro e w3 ⟨rfl, ho, hc1⟩; have HO3 := Lib.hid ho; have hx := Ch5.blk hc1 HX2.out (by omega) (by decide); have HX3 := Lib.hid hx; have HB3 := Lib.hid (HB2.out.trans (hc1.to_below HB2.out.size (by omega) (fun _ h => h))); obtain ⟨z0, z1, z2, z3, z4, z5, z6⟩ := pbcell hx; clear ho hc1 hx)
      | (go_at_call 59; refine (raw_calls HO3.out HB3.out.size (by have h1 := HDL.out; have h2 := HPUT.out; unfold dat at h1; rw [List.nil_append, List.length_append, List.length_append]; simp only [be2, List.length_cons, List.length_nil] at h1 ⊢; omega) P (by omega)).mono ?_; rintro e w4 ⟨rfl, ho, hc1⟩; have HO4 := Lib.hid ho; have HB4 := Lib.hid (HB3.out.trans (hc1.to_below HB3.out.size (by omega) (fun _ h => h))); clear ho hc1)
      | (go_at_call 16; refine (text_calls HO4.out).mono ?_; rintro e w5 ⟨rfl, hb2⟩; have HB5 := Lib.hid (HB4.out.trans (hb2.mono HB4.out.size)); clear hb2))
    go_ret
    exact ⟨by rw [HBODY2.out]; unfold dat; simp only [List.nil_append, List.append_assoc]; rfl, HB5.out⟩
  · have hq1 : decide ((0 : Int) < (q : Int)) = false := decide_eq_false (by omega)
    have HBO := HBODY.out
    rw [if_neg h0, List.nil_append] at HBO
    have HBODY2 := Lib.hid HBO
    clear HBO HBODY
    go_enter Tryz.func382, Tryz.ntmps382
    go_wp2_with (first
      | (go_at_call 383; refine (data_calls HN.out HSB.out (by show 0 ≤ 900000; omega) T hT).mono ?_; rintro e w1 ⟨rfl, ho, hc1⟩; have HO1 := Lib.hid ho; have hx := Ch5.blk hc1 HX.out (by omega) (by decide); have HX1 := Lib.hid hx; have HB1 := Lib.hid (HB.out.trans (hc1.to_below HSB.out (by omega) (fun _ h => h))); obtain ⟨x0, x1, x2, x3, x4, x5, x6⟩ := pbcell hx; clear ho hc1 hx)
      | (go_at_call 385; refine (Put_calls HO1.out HB1.out.size (by have := HDL.out; unfold dat at this; rw [List.nil_append]; omega) A c L hc (HPL.out.to HB1.out) HOK.out HSZ.out hll).mono ?_; rintro e w3 ⟨rfl, ho, hc1⟩; have HO3 := Lib.hid ho; have hx := Ch5.blk hc1 HX1.out (by omega) (by decide); have HX3 := Lib.hid hx; have HB3 := Lib.hid (HB1.out.trans (hc1.to_below HB1.out.size (by omega) (fun _ h => h))); obtain ⟨z0, z1, z2, z3, z4, z5, z6⟩ := pbcell hx; clear ho hc1 hx)
      | (go_at_call 59; refine (raw_calls HO3.out HB3.out.size (by have h1 := HDL.out; have h2 := HPUT.out; unfold dat at h1; rw [List.nil_append, List.length_append]; omega) P (by omega)).mono ?_; rintro e w4 ⟨rfl, ho, hc1⟩; have HO4 := Lib.hid ho; have HB4 := Lib.hid (HB3.out.trans (hc1.to_below HB3.out.size (by omega) (fun _ h => h))); clear ho hc1)
      | (go_at_call 16; refine (text_calls HO4.out).mono ?_; rintro e w5 ⟨rfl, hb2⟩; have HB5 := Lib.hid (HB4.out.trans (hb2.mono HB4.out.size)); clear hb2))
    go_ret
    exact ⟨by rw [HBODY2.out]; unfold dat; simp only [List.nil_append, List.append_assoc]; rfl, HB5.out⟩
theorem below_dr {B : Nat} {w W : World} (h : Below B w W) : Below B w W.drew := ⟨h.os, h.tape, h.output, h.size, h.block⟩
def fr (kind flags : Nat) (body : ByteArray) : Value := .agg #[.int .i64 (kind : Nat), .int .i64 (flags : Nat), .string body]
def FrPost (w : World) (kind flags : Nat) (body : ByteArray) (e : Ending) (w' : World) : Prop := e = .returned (fr kind flags body) ∧ Below w.heap.size w w'
set_option maxHeartbeats 4000000 in
set_option maxRecDepth 1000000 in
theorem pubframe_calls {w : World} (d : PD) (A : Option Addr) (c : Nat) (hd : d.Ok) (hc : d.L.length ≤ c) (hL : PL w A d.L) : Calls Tryz.prog 381 #[.agg #[.bool d.dup, .bool d.ret, .int .u8 (d.q : Nat), .int .u32 (d.id : Nat), .slice A d.L.length c, .string d.T, .string d.P]] w (FrPost w 3 d.fl (toB d.body)) := by
  have HF := Lib.hid (fun W => flags_calls (w := W) d A c hd.q)
  have HT := Lib.hid (fun W (hb : Below w.heap.size w W) => pubtext_calls (w := W) d A c hd hc (hL.to hb))
  unfold PD.v at HF HT
  generalize toB d.body = B at HT ⊢
  generalize d.fl = F at HF ⊢
  obtain ⟨dup, ret, q, id, L, T, P⟩ := d
  simp only at HF HT ⊢
  have HX := Lib.hid (show ((w.alloc (.cells #[.bool dup, .bool ret, .int .u8 (q : Nat), .int .u32 (id : Nat), .slice A L.length c, .string T, .string P] 45)).alloc (.cells #[.int .i64 0, .int .i64 0, .string ⟨#[]⟩] 128)).heap[w.heap.size]? = some (.cells #[.bool dup, .bool ret, .int .u8 (q : Nat), .int .u32 (id : Nat), .slice A L.length c, .string T, .string P] 45 (0, 0)) from blk_alloc (heap_alloc_new w _) _)
  have HB := Lib.hid (show Below w.heap.size w ((w.alloc (.cells #[.bool dup, .bool ret, .int .u8 (q : Nat), .int .u32 (id : Nat), .slice A L.length c, .string T, .string P] 45)).alloc (.cells #[.int .i64 0, .int .i64 0, .string ⟨#[]⟩] 128)) from ((Below.refl _ _).alloc (Nat.le_refl _) _).alloc (by rw [World.size_alloc]; omega) _)
  clear hd hc hL
  have HR := Lib.hid (show ((w.alloc (.cells #[.bool dup, .bool ret, .int .u8 (q : Nat), .int .u32 (id : Nat), .slice A L.length c, .string T, .string P] 45)).alloc (.cells #[.int .i64 0, .int .i64 0, .string ⟨#[]⟩] 128)).heap[w.heap.size + 1]? = some (.cells #[.int .i64 0, .int .i64 0, .string ⟨#[]⟩] 128 (0, 0)) by
    have := heap_alloc_new (w.alloc (.cells #[.bool dup, .bool ret, .int .u8 (q : Nat), .int .u32 (id : Nat), .slice A L.length c, .string T, .string P] 45)) (.cells #[.int .i64 0, .int .i64 0, .string ⟨#[]⟩] 128)
    rw [World.size_alloc] at this
    exact this)
  go_enter Tryz.func381, Tryz.ntmps381
  go_wp2_with fail
  generalize ((w.alloc (.cells #[.bool dup, .bool ret, .int .u8 (q : Nat), .int .u32 (id : Nat), .slice A L.length c, .string T, .string P] 45)).alloc (.cells #[.int .i64 0, .int .i64 0, .string ⟨#[]⟩] 128)) = W0 at HX HB HR ⊢
  obtain ⟨x0, x1, x2, x3, x4, x5, x6⟩ := pbcell HX.out
  have HXd := Lib.hid (blk_drew HX.out)
  have HRd := Lib.hid (blk_drew HR.out)
  have HBd := Lib.hid (below_dr HB.out)
  clear HX HR HB
  go_region_held3 (fun w' => w'.cell? ⟨w.heap.size, 0, none⟩ = some (.bool dup) ∧ w'.cell? ⟨w.heap.size, 1, none⟩ = some (.bool ret) ∧ w'.cell? ⟨w.heap.size, 2, none⟩ = some (.int .u8 (q : Nat)) ∧ w'.cell? ⟨w.heap.size, 3, none⟩ = some (.int .u32 (id : Nat)) ∧ w'.cell? ⟨w.heap.size, 4, none⟩ = some (.slice A L.length c) ∧ w'.cell? ⟨w.heap.size, 5, none⟩ = some (.string T) ∧ w'.cell? ⟨w.heap.size, 6, none⟩ = some (.string P)) (first | exact ⟨x0, x1, x2, x3, x4, x5, x6⟩ | exact ⟨y0, y1, y2, y3, y4, y5, y6⟩ | exact ⟨z0, z1, z2, z3, z4, z5, z6⟩ | go_keep) (first
    | (go_at_call 380; refine (HF.out W0.drew).mono ?_; rintro e w1 ⟨rfl, hb⟩; have HX1 := Lib.hid (hb.block _ (blk_lt HXd.out) |>.trans HXd.out); have HR1 := Lib.hid (hb.block _ (blk_lt HRd.out) |>.trans HRd.out); have HB1 := Lib.hid (HBd.out.trans (hb.mono HBd.out.size)); obtain ⟨y0, y1, y2, y3, y4, y5, y6⟩ := pbcell HX1.out; clear hb)
    | (go_at_call 382; refine (HT.out _ HB1.out).mono ?_; rintro e w2 ⟨rfl, hb⟩; have HX2 := Lib.hid (hb.block _ (blk_lt HX1.out) |>.trans HX1.out); have HR2 := Lib.hid (hb.block _ (blk_lt HR1.out) |>.trans HR1.out); have HB2 := Lib.hid (HB1.out.trans (hb.mono HB1.out.size)); obtain ⟨z0, z1, z2, z3, z4, z5, z6⟩ := pbcell HX2.out; have r0 : w2.cell? ⟨w.heap.size + 1, 0, none⟩ = some (.int .i64 0) := (blk_cell HR2.out 0).trans rfl; have r1 : w2.cell? ⟨w.heap.size + 1, 1, none⟩ = some (.int .i64 0) := (blk_cell HR2.out 1).trans rfl; have r2 : w2.cell? ⟨w.heap.size + 1, 2, none⟩ = some (.string ⟨#[]⟩) := (blk_cell HR2.out 2).trans rfl; have f0 := blk_frozen HR2.out 0; have f1 := blk_frozen HR2.out 1; have f2 := blk_frozen HR2.out 2; clear hb))
  go_wp2
  refine bodyPost_ret (v := fr 3 F B) (by unfold fr; simp [results, Tryz.results381, go_sem, r0, r1, r2]) rfl ⟨rfl, ?_⟩
  exact ((HB2.out.setCell (by simp; done) _).setCell (by simp; done) _).setCell (by simp; done) _
def frB (kind flags : Nat) (body : ByteArray) : List UInt8 := UInt8.ofNat (kind * 16 + flags) :: (varU body.size ++ body.data.toList)
theorem head_bits (k f : Nat) (hk : k < 16) (hf : f < 16) : Go.bits .and .i64 (f : Int) 15 = (f : Int) ∧ Go.bits .or .i64 ((k : Int) * 16) (f : Int) = ((k * 16 + f : Nat) : Int) := by
  have h : ∀ (k f : Fin 16), Go.bits .and .i64 ((f.1 : Nat) : Int) 15 = ((f.1 : Nat) : Int) ∧ Go.bits .or .i64 (((k.1 : Nat) : Int) * 16) ((f.1 : Nat) : Int) = ((k.1 * 16 + f.1 : Nat) : Int) := by decide +kernel
  exact h ⟨k, hk⟩ ⟨f, hf⟩
theorem frcell {w : World} {bx : Nat} {t : TypeId} {a0 a1 a2 : Value} (h : w.heap[bx]? = some (.cells #[a0, a1, a2] t (0, 0))) : w.cell? ⟨bx, 0, none⟩ = some a0 ∧ w.cell? ⟨bx, 1, none⟩ = some a1 ∧ w.cell? ⟨bx, 2, none⟩ = some a2 :=
  ⟨(blk_cell h 0).trans rfl, (blk_cell h 1).trans rfl, (blk_cell h 2).trans rfl⟩
set_option maxHeartbeats 4000000 in
set_option maxRecDepth 1000000 in
theorem frtext_calls {w : World} (k f : Nat) (body : ByteArray) (hk : k < 16) (hf : f < 16) (hb : body.size ≤ 500000) : Calls Tryz.prog 40 #[fr k f body] w fun e w' => e = .returned (.string (toB (frB k f body))) ∧ Below w.heap.size w w' := by
  obtain ⟨b1, b2⟩ := head_bits k f hk hf
  have hlt : k * 16 + f < 256 := by omega
  have HE := Lib.hid (show frB k f body = UInt8.ofNat (k * 16 + f) :: (varU body.size ++ body.data.toList) from rfl)
  generalize frB k f body = E at HE ⊢
  unfold fr
  have HX := Lib.hid (show ((w.alloc (.cells #[.int .i64 (k : Nat), .int .i64 (f : Nat), .string body] 128)).alloc (.cells #[.slice none 0 0] 59)).heap[w.heap.size]? = some (.cells #[.int .i64 (k : Nat), .int .i64 (f : Nat), .string body] 128 (0, 0)) from blk_alloc (heap_alloc_new w _) _)
  have HN := Lib.hid (show OW ((w.alloc (.cells #[.int .i64 (k : Nat), .int .i64 (f : Nat), .string body] 128)).alloc (.cells #[.slice none 0 0] 59)) (w.heap.size + 1) (fun k => w.heap.size ≤ k) [] by
    have := OW.new (w.alloc (.cells #[.int .i64 (k : Nat), .int .i64 (f : Nat), .string body] 128)) (fun k => w.heap.size ≤ k)
    rw [World.size_alloc] at this
    exact this)
  have HB := Lib.hid (show Below w.heap.size w ((w.alloc (.cells #[.int .i64 (k : Nat), .int .i64 (f : Nat), .string body] 128)).alloc (.cells #[.slice none 0 0] 59)) from ((Below.refl _ _).alloc (Nat.le_refl _) _).alloc (by rw [World.size_alloc]; omega) _)
  generalize hz : k * 16 + f = z at b2 hlt HE
  have hm : (z : Int) % 256 = (z : Int) := by omega
  have hm2 : (body.size : Int) % 4294967296 = (body.size : Int) := by omega
  have HV := Lib.hid (varU_5 body.size (by omega))
  have hw16 : IntKind.i64.wrap ((k : Int) * 16) = (k : Int) * 16 := IntWalk.i64_in _ (by omega)
  have hwu8 : IntKind.u8.wrap (z : Int) = (z : Int) := by simp only [IntKind.wrap, IntKind.bits, IntKind.signed]; simp; omega
  have hwu32 : IntKind.u32.wrap (body.size : Int) = (body.size : Int) := wraps_u32 _ (by omega) (by omega)
  clear hz
  go_enter Tryz.func40, Tryz.ntmps40
  go_wp2_with fail
  generalize ((w.alloc (.cells #[.int .i64 (k : Nat), .int .i64 (f : Nat), .string body] 128)).alloc (.cells #[.slice none 0 0] 59)) = W0 at HX HN HB ⊢
  have HXd := Lib.hid (blk_drew HX.out)
  have HNd := Lib.hid HN.out.drew
  have HBd := Lib.hid (below_dr HB.out)
  obtain ⟨x0, x1, x2⟩ := frcell HX.out
  clear HX HN HB
  go_region_held3 (fun w' => w'.cell? ⟨w.heap.size, 0, none⟩ = some (.int .i64 (k : Nat)) ∧ w'.cell? ⟨w.heap.size, 1, none⟩ = some (.int .i64 (f : Nat)) ∧ w'.cell? ⟨w.heap.size, 2, none⟩ = some (.string body)) (first | exact ⟨x0, x1, x2⟩ | exact ⟨y0, y1, y2⟩ | exact ⟨z0, z1, z2⟩ | exact ⟨v0, v1, v2⟩ | exact ⟨u0, u1, u2⟩ | go_keep) (first
    | (go_at_call 32; (with_reducible refine (byte_calls HNd.out (fun k hk => Nat.le_trans HBd.out.size hk) (by rw [List.length_nil]; omega) z hlt).mono ?_); rintro e w1 ⟨rfl, ho, hc1⟩; have HO1 := Lib.hid ho; have hx := Ch5.blk hc1 HXd.out (by omega) (by decide); have HX1 := Lib.hid hx; have HB1 := Lib.hid (HBd.out.trans (hc1.to_below HBd.out.size (by omega) (fun _ h => h))); obtain ⟨y0, y1, y2⟩ := frcell hx; clear ho hc1 hx)
    | (go_at_call 15; (with_reducible refine (ovar_calls HO1.out (fun k hk => Nat.le_trans HB1.out.size hk) (by simp only [List.nil_append, List.length_cons, List.length_nil]; omega) body.size (by omega)).mono ?_); rintro e w2 ⟨rfl, ho, hc1⟩; have HO2 := Lib.hid ho; have hx := Ch5.blk hc1 HX1.out (by omega) (by decide); have HX2 := Lib.hid hx; have HB2 := Lib.hid (HB1.out.trans (hc1.to_below HB1.out.size (by omega) (fun _ h => h))); obtain ⟨z0, z1, z2⟩ := frcell hx; clear ho hc1 hx)
    | (go_at_call 59; (with_reducible refine (raw_calls HO2.out HB2.out.size (by have h2 := HV.out; simp only [List.nil_append, List.length_append, List.length_cons, List.length_nil]; omega) body (by omega)).mono ?_); rintro e w3 ⟨rfl, ho, hc1⟩; have HO3 := Lib.hid ho; have hx := Ch5.blk hc1 HX2.out (by omega) (by decide); have HX3 := Lib.hid hx; have HB3 := Lib.hid (HB2.out.trans (hc1.to_below HB2.out.size (by omega) (fun _ h => h))); obtain ⟨v0, v1, v2⟩ := frcell hx; clear ho hc1 hx)
    | (go_at_call 16; (with_reducible refine (text_calls HO3.out).mono ?_); rintro e w4 ⟨rfl, hb2⟩; have hx := hb2.block _ (blk_lt HX3.out) |>.trans HX3.out; have HB4 := Lib.hid (HB3.out.trans (hb2.mono HB3.out.size)); obtain ⟨u0, u1, u2⟩ := frcell hx; clear hb2 hx))
  go_wp2
  go_ret
  exact ⟨by rw [HE.out]; simp only [List.nil_append, List.append_assoc]; rfl, HB4.out⟩
def FrameIs (w : World) (t : TypeId) (v : Value) (k f : Nat) (body : ByteArray) (fn : Nat) : Prop := ∀ W, Below w.heap.size w W → Calls Tryz.prog fn #[v] W (FrPost W k f body)
theorem method_pub (v : Value) (w : World) : (method 611 45 v "Frame").run Tryz.prog w = .ok (381, v) w := by kernel_rfl
set_option maxHeartbeats 4000000 in
set_option maxRecDepth 1000000 in
theorem text_pub {w : World} (v : Value) (k f : Nat) (body : ByteArray) (hk : k < 16) (hf : f < 16) (hb : body.size ≤ 500000) (h : FrameIs w 45 v k f body 381) : Calls Tryz.prog 22 #[.iface 45 v] w fun e w' => e = .returned (.string (toB (frB k f body))) ∧ Below w.heap.size w w' := by
  have HF := Lib.hid h
  go_enter Tryz.func22, Tryz.ntmps22
  have hm := method_pub v
  have HT := Lib.hid (fun W => frtext_calls (w := W) k f body hk hf hb)
  clear hk hf hb h
  go_wp2_with (first
    | (go_at_call 381; refine (HF.out _ (Below.refl _ _)).mono ?_; rintro e w1 ⟨rfl, hb1⟩; have HB1 := Lib.hid hb1; clear hb1)
    | (go_at_call 40; refine (HT.out _).mono ?_; rintro e w2 ⟨rfl, hb1⟩; have HB2 := Lib.hid hb1; clear hb1))
  go_ret
  exact ⟨rfl, HB1.out.trans (HB2.out.mono HB1.out.size)⟩
end Go.Proofs.YtbfgpkogginmjaaGreatDoor
end

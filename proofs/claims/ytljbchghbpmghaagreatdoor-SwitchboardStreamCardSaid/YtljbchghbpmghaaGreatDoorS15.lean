/- packet.Text by the dynamic type; the frames of a connack and a ping. -/
import Derived.Test.YtljbchghbpmghaaGreatDoorS14
namespace Go.Proofs.YtljbchghbpmghaaGreatDoor
open Go.RowKit Go.Lib Go.Proofs.YtljbchghbpmghaaGreatDoorW.PrintWords Go.Proofs.YtljbchghbpmghaaGreatDoor.PSwitchboardGreat
set_option linter.unusedVariables false
set_option linter.unusedSimpArgs false
theorem method_89 (v : Value) (w : World) : (method 286 89 v "Frame").run Tryz.prog w = .ok (112, v) w := by kernel_rfl
set_option maxHeartbeats 4000000 in
set_option maxRecDepth 1000000 in
theorem text_89 {w : World} (v : Value) (k f : Nat) (body : ByteArray) (hk : k < 16) (hf : f < 16) (hb : body.size ≤ 500000) (h : FrameIs w 89 v k f body 112) : Calls Tryz.prog 8 #[.iface 89 v] w fun e w' => e = .returned (.string (toB (frB k f body))) ∧ Below w.heap.size w w' := by
  have HF := Lib.hid h
  go_enter Tryz.func8, Tryz.ntmps8
  have hm := method_89 v
  have HT := Lib.hid (fun W => frtext_calls (w := W) k f body hk hf hb)
  clear hk hf hb h
  go_wp2_with (first
    | (go_at_call 112; refine (HF.out _ (Below.refl _ _)).mono ?_; rintro e w1 ⟨rfl, hb1⟩; have HB1 := Lib.hid hb1; clear hb1)
    | (go_at_call 12; refine (HT.out _).mono ?_; rintro e w2 ⟨rfl, hb1⟩; have HB2 := Lib.hid hb1; clear hb1))
  go_ret
  exact ⟨rfl, HB1.out.trans (HB2.out.mono HB1.out.size)⟩
theorem method_95 (v : Value) (w : World) : (method 286 95 v "Frame").run Tryz.prog w = .ok (116, v) w := by kernel_rfl
set_option maxHeartbeats 4000000 in
set_option maxRecDepth 1000000 in
theorem text_95 {w : World} (v : Value) (k f : Nat) (body : ByteArray) (hk : k < 16) (hf : f < 16) (hb : body.size ≤ 500000) (h : FrameIs w 95 v k f body 116) : Calls Tryz.prog 8 #[.iface 95 v] w fun e w' => e = .returned (.string (toB (frB k f body))) ∧ Below w.heap.size w w' := by
  have HF := Lib.hid h
  go_enter Tryz.func8, Tryz.ntmps8
  have hm := method_95 v
  have HT := Lib.hid (fun W => frtext_calls (w := W) k f body hk hf hb)
  clear hk hf hb h
  go_wp2_with (first
    | (go_at_call 116; refine (HF.out _ (Below.refl _ _)).mono ?_; rintro e w1 ⟨rfl, hb1⟩; have HB1 := Lib.hid hb1; clear hb1)
    | (go_at_call 12; refine (HT.out _).mono ?_; rintro e w2 ⟨rfl, hb1⟩; have HB2 := Lib.hid hb1; clear hb1))
  go_ret
  exact ⟨rfl, HB1.out.trans (HB2.out.mono HB1.out.size)⟩
theorem method_103 (v : Value) (w : World) : (method 286 103 v "Frame").run Tryz.prog w = .ok (118, v) w := by kernel_rfl
set_option maxHeartbeats 4000000 in
set_option maxRecDepth 1000000 in
theorem text_103 {w : World} (v : Value) (k f : Nat) (body : ByteArray) (hk : k < 16) (hf : f < 16) (hb : body.size ≤ 500000) (h : FrameIs w 103 v k f body 118) : Calls Tryz.prog 8 #[.iface 103 v] w fun e w' => e = .returned (.string (toB (frB k f body))) ∧ Below w.heap.size w w' := by
  have HF := Lib.hid h
  go_enter Tryz.func8, Tryz.ntmps8
  have hm := method_103 v
  have HT := Lib.hid (fun W => frtext_calls (w := W) k f body hk hf hb)
  clear hk hf hb h
  go_wp2_with (first
    | (go_at_call 118; refine (HF.out _ (Below.refl _ _)).mono ?_; rintro e w1 ⟨rfl, hb1⟩; have HB1 := Lib.hid hb1; clear hb1)
    | (go_at_call 12; refine (HT.out _).mono ?_; rintro e w2 ⟨rfl, hb1⟩; have HB2 := Lib.hid hb1; clear hb1))
  go_ret
  exact ⟨rfl, HB1.out.trans (HB2.out.mono HB1.out.size)⟩
theorem method_105 (v : Value) (w : World) : (method 286 105 v "Frame").run Tryz.prog w = .ok (119, v) w := by kernel_rfl
set_option maxHeartbeats 4000000 in
set_option maxRecDepth 1000000 in
theorem text_105 {w : World} (v : Value) (k f : Nat) (body : ByteArray) (hk : k < 16) (hf : f < 16) (hb : body.size ≤ 500000) (h : FrameIs w 105 v k f body 119) : Calls Tryz.prog 8 #[.iface 105 v] w fun e w' => e = .returned (.string (toB (frB k f body))) ∧ Below w.heap.size w w' := by
  have HF := Lib.hid h
  go_enter Tryz.func8, Tryz.ntmps8
  have hm := method_105 v
  have HT := Lib.hid (fun W => frtext_calls (w := W) k f body hk hf hb)
  clear hk hf hb h
  go_wp2_with (first
    | (go_at_call 119; refine (HF.out _ (Below.refl _ _)).mono ?_; rintro e w1 ⟨rfl, hb1⟩; have HB1 := Lib.hid hb1; clear hb1)
    | (go_at_call 12; refine (HT.out _).mono ?_; rintro e w2 ⟨rfl, hb1⟩; have HB2 := Lib.hid hb1; clear hb1))
  go_ret
  exact ⟨rfl, HB1.out.trans (HB2.out.mono HB1.out.size)⟩
theorem method_107 (v : Value) (w : World) : (method 286 107 v "Frame").run Tryz.prog w = .ok (120, v) w := by kernel_rfl
set_option maxHeartbeats 4000000 in
set_option maxRecDepth 1000000 in
theorem text_107 {w : World} (v : Value) (k f : Nat) (body : ByteArray) (hk : k < 16) (hf : f < 16) (hb : body.size ≤ 500000) (h : FrameIs w 107 v k f body 120) : Calls Tryz.prog 8 #[.iface 107 v] w fun e w' => e = .returned (.string (toB (frB k f body))) ∧ Below w.heap.size w w' := by
  have HF := Lib.hid h
  go_enter Tryz.func8, Tryz.ntmps8
  have hm := method_107 v
  have HT := Lib.hid (fun W => frtext_calls (w := W) k f body hk hf hb)
  clear hk hf hb h
  go_wp2_with (first
    | (go_at_call 120; refine (HF.out _ (Below.refl _ _)).mono ?_; rintro e w1 ⟨rfl, hb1⟩; have HB1 := Lib.hid hb1; clear hb1)
    | (go_at_call 12; refine (HT.out _).mono ?_; rintro e w2 ⟨rfl, hb1⟩; have HB2 := Lib.hid hb1; clear hb1))
  go_ret
  exact ⟨rfl, HB1.out.trans (HB2.out.mono HB1.out.size)⟩
theorem method_128 (v : Value) (w : World) : (method 286 128 v "Frame").run Tryz.prog w = .ok (122, v) w := by kernel_rfl
set_option maxHeartbeats 4000000 in
set_option maxRecDepth 1000000 in
theorem text_128 {w : World} (v : Value) (k f : Nat) (body : ByteArray) (hk : k < 16) (hf : f < 16) (hb : body.size ≤ 500000) (h : FrameIs w 128 v k f body 122) : Calls Tryz.prog 8 #[.iface 128 v] w fun e w' => e = .returned (.string (toB (frB k f body))) ∧ Below w.heap.size w w' := by
  have HF := Lib.hid h
  go_enter Tryz.func8, Tryz.ntmps8
  have hm := method_128 v
  have HT := Lib.hid (fun W => frtext_calls (w := W) k f body hk hf hb)
  clear hk hf hb h
  go_wp2_with (first
    | (go_at_call 122; refine (HF.out _ (Below.refl _ _)).mono ?_; rintro e w1 ⟨rfl, hb1⟩; have HB1 := Lib.hid hb1; clear hb1)
    | (go_at_call 12; refine (HT.out _).mono ?_; rintro e w2 ⟨rfl, hb1⟩; have HB2 := Lib.hid hb1; clear hb1))
  go_ret
  exact ⟨rfl, HB1.out.trans (HB2.out.mono HB1.out.size)⟩
theorem method_134 (v : Value) (w : World) : (method 286 134 v "Frame").run Tryz.prog w = .ok (126, v) w := by kernel_rfl
set_option maxHeartbeats 4000000 in
set_option maxRecDepth 1000000 in
theorem text_134 {w : World} (v : Value) (k f : Nat) (body : ByteArray) (hk : k < 16) (hf : f < 16) (hb : body.size ≤ 500000) (h : FrameIs w 134 v k f body 126) : Calls Tryz.prog 8 #[.iface 134 v] w fun e w' => e = .returned (.string (toB (frB k f body))) ∧ Below w.heap.size w w' := by
  have HF := Lib.hid h
  go_enter Tryz.func8, Tryz.ntmps8
  have hm := method_134 v
  have HT := Lib.hid (fun W => frtext_calls (w := W) k f body hk hf hb)
  clear hk hf hb h
  go_wp2_with (first
    | (go_at_call 126; refine (HF.out _ (Below.refl _ _)).mono ?_; rintro e w1 ⟨rfl, hb1⟩; have HB1 := Lib.hid hb1; clear hb1)
    | (go_at_call 12; refine (HT.out _).mono ?_; rintro e w2 ⟨rfl, hb1⟩; have HB2 := Lib.hid hb1; clear hb1))
  go_ret
  exact ⟨rfl, HB1.out.trans (HB2.out.mono HB1.out.size)⟩
theorem method_140 (v : Value) (w : World) : (method 286 140 v "Frame").run Tryz.prog w = .ok (128, v) w := by kernel_rfl
set_option maxHeartbeats 4000000 in
set_option maxRecDepth 1000000 in
theorem text_140 {w : World} (v : Value) (k f : Nat) (body : ByteArray) (hk : k < 16) (hf : f < 16) (hb : body.size ≤ 500000) (h : FrameIs w 140 v k f body 128) : Calls Tryz.prog 8 #[.iface 140 v] w fun e w' => e = .returned (.string (toB (frB k f body))) ∧ Below w.heap.size w w' := by
  have HF := Lib.hid h
  go_enter Tryz.func8, Tryz.ntmps8
  have hm := method_140 v
  have HT := Lib.hid (fun W => frtext_calls (w := W) k f body hk hf hb)
  clear hk hf hb h
  go_wp2_with (first
    | (go_at_call 128; refine (HF.out _ (Below.refl _ _)).mono ?_; rintro e w1 ⟨rfl, hb1⟩; have HB1 := Lib.hid hb1; clear hb1)
    | (go_at_call 12; refine (HT.out _).mono ?_; rintro e w2 ⟨rfl, hb1⟩; have HB2 := Lib.hid hb1; clear hb1))
  go_ret
  exact ⟨rfl, HB1.out.trans (HB2.out.mono HB1.out.size)⟩
set_option maxHeartbeats 4000000 in
set_option maxRecDepth 1000000 in
theorem ckframe {w : World} {p : Bool} {cd n c : Nat} {A : Option Addr} {B : ByteArray} (HT : Hid (∀ W, Below w.heap.size w W → Calls Tryz.prog 115 #[.agg #[.bool p, .int .u8 (cd : Nat), .slice A n c]] W fun e w' => e = .returned (.string B) ∧ Below W.heap.size W w')) : Calls Tryz.prog 116 #[.agg #[.bool p, .int .u8 (cd : Nat), .slice A n c]] w (FrPost w 2 0 B) := by
  have HX := Lib.hid (show ((w.alloc (.cells #[.bool p, .int .u8 (cd : Nat), .slice A n c] 95)).alloc (.cells #[.int .i64 0, .int .i64 0, .string ⟨#[]⟩] 36)).heap[w.heap.size]? = some (.cells #[.bool p, .int .u8 (cd : Nat), .slice A n c] 95 (0, 0)) from blk_alloc (heap_alloc_new w _) _)
  have HB := Lib.hid (show Below w.heap.size w ((w.alloc (.cells #[.bool p, .int .u8 (cd : Nat), .slice A n c] 95)).alloc (.cells #[.int .i64 0, .int .i64 0, .string ⟨#[]⟩] 36)) from ((Below.refl _ _).alloc (Nat.le_refl _) _).alloc (by rw [World.size_alloc]; omega) _)
  have HR := Lib.hid (show ((w.alloc (.cells #[.bool p, .int .u8 (cd : Nat), .slice A n c] 95)).alloc (.cells #[.int .i64 0, .int .i64 0, .string ⟨#[]⟩] 36)).heap[w.heap.size + 1]? = some (.cells #[.int .i64 0, .int .i64 0, .string ⟨#[]⟩] 36 (0, 0)) by
    have := heap_alloc_new (w.alloc (.cells #[.bool p, .int .u8 (cd : Nat), .slice A n c] 95)) (.cells #[.int .i64 0, .int .i64 0, .string ⟨#[]⟩] 36)
    rw [World.size_alloc] at this
    exact this)
  go_enter Tryz.func116, Tryz.ntmps116
  go_upto_region 1 with fail
  generalize ((w.alloc (.cells #[.bool p, .int .u8 (cd : Nat), .slice A n c] 95)).alloc (.cells #[.int .i64 0, .int .i64 0, .string ⟨#[]⟩] 36)) = W0 at HX HB HR ⊢
  obtain ⟨x0, x1, x2⟩ := frcell HX.out
  go_wp2_with (first
    | (go_at_call 115; (with_reducible refine (HT.out _ HB.out).mono ?_); rintro e w2 ⟨rfl, hb⟩; have HR2 := Lib.hid (hb.block _ (blk_lt HR.out) |>.trans HR.out); have HB2 := Lib.hid (HB.out.trans (hb.mono HB.out.size)); obtain ⟨r0, r1, r2⟩ := frcell HR2.out; have f0 := blk_frozen HR2.out 0; have f1 := blk_frozen HR2.out 1; have f2 := blk_frozen HR2.out 2; clear hb))
  refine bodyPost_ret (v := fr 2 0 B) (by unfold fr; simp [results, Tryz.results116, go_sem, r0, r1, r2]) rfl ⟨rfl, ?_⟩
  exact ((HB2.out.setCell (by simp; done) _).setCell (by simp; done) _).setCell (by simp; done) _
set_option maxHeartbeats 4000000 in
set_option maxRecDepth 1000000 in
theorem coframe {w : World} {b0 b4 b9 b10 b11 : Bool} {n1 n2 c2 n5 c5 n8 : Nat} {A2 A5 : Option Addr} {s3 s6 s7 s12 s13 : ByteArray} {B : ByteArray} (HT : Hid (∀ W, Below w.heap.size w W → Calls Tryz.prog 111 #[.agg #[.bool b0, .int .u32 (n1 : Nat), .slice A2 n2 c2, .string s3, .bool b4, .slice A5 n5 c5, .string s6, .string s7, .int .u8 (n8 : Nat), .bool b9, .bool b10, .bool b11, .string s12, .string s13]] W fun e w' => e = .returned (.string B) ∧ Below W.heap.size W w')) : Calls Tryz.prog 112 #[.agg #[.bool b0, .int .u32 (n1 : Nat), .slice A2 n2 c2, .string s3, .bool b4, .slice A5 n5 c5, .string s6, .string s7, .int .u8 (n8 : Nat), .bool b9, .bool b10, .bool b11, .string s12, .string s13]] w (FrPost w 1 0 B) := by
  have HX := Lib.hid (show ((w.alloc (.cells #[.bool b0, .int .u32 (n1 : Nat), .slice A2 n2 c2, .string s3, .bool b4, .slice A5 n5 c5, .string s6, .string s7, .int .u8 (n8 : Nat), .bool b9, .bool b10, .bool b11, .string s12, .string s13] 89)).alloc (.cells #[.int .i64 0, .int .i64 0, .string ⟨#[]⟩] 36)).heap[w.heap.size]? = some (.cells #[.bool b0, .int .u32 (n1 : Nat), .slice A2 n2 c2, .string s3, .bool b4, .slice A5 n5 c5, .string s6, .string s7, .int .u8 (n8 : Nat), .bool b9, .bool b10, .bool b11, .string s12, .string s13] 89 (0, 0)) from blk_alloc (heap_alloc_new w _) _)
  have HB := Lib.hid (show Below w.heap.size w ((w.alloc (.cells #[.bool b0, .int .u32 (n1 : Nat), .slice A2 n2 c2, .string s3, .bool b4, .slice A5 n5 c5, .string s6, .string s7, .int .u8 (n8 : Nat), .bool b9, .bool b10, .bool b11, .string s12, .string s13] 89)).alloc (.cells #[.int .i64 0, .int .i64 0, .string ⟨#[]⟩] 36)) from ((Below.refl _ _).alloc (Nat.le_refl _) _).alloc (by rw [World.size_alloc]; omega) _)
  have HR := Lib.hid (show ((w.alloc (.cells #[.bool b0, .int .u32 (n1 : Nat), .slice A2 n2 c2, .string s3, .bool b4, .slice A5 n5 c5, .string s6, .string s7, .int .u8 (n8 : Nat), .bool b9, .bool b10, .bool b11, .string s12, .string s13] 89)).alloc (.cells #[.int .i64 0, .int .i64 0, .string ⟨#[]⟩] 36)).heap[w.heap.size + 1]? = some (.cells #[.int .i64 0, .int .i64 0, .string ⟨#[]⟩] 36 (0, 0)) by
    have := heap_alloc_new (w.alloc (.cells #[.bool b0, .int .u32 (n1 : Nat), .slice A2 n2 c2, .string s3, .bool b4, .slice A5 n5 c5, .string s6, .string s7, .int .u8 (n8 : Nat), .bool b9, .bool b10, .bool b11, .string s12, .string s13] 89)) (.cells #[.int .i64 0, .int .i64 0, .string ⟨#[]⟩] 36)
    rw [World.size_alloc] at this
    exact this)
  go_enter Tryz.func112, Tryz.ntmps112
  go_upto_region 1 with fail
  generalize ((w.alloc (.cells #[.bool b0, .int .u32 (n1 : Nat), .slice A2 n2 c2, .string s3, .bool b4, .slice A5 n5 c5, .string s6, .string s7, .int .u8 (n8 : Nat), .bool b9, .bool b10, .bool b11, .string s12, .string s13] 89)).alloc (.cells #[.int .i64 0, .int .i64 0, .string ⟨#[]⟩] 36)) = W0 at HX HB HR ⊢
  obtain ⟨x0, x1, x2, x3, x4, x5, x6, x7, x8, x9, x10, x11, x12, x13⟩ := ncell HX.out
  go_wp2_with (first
    | (go_at_call 111; (with_reducible refine (HT.out _ HB.out).mono ?_); rintro e w2 ⟨rfl, hb⟩; have HR2 := Lib.hid (hb.block _ (blk_lt HR.out) |>.trans HR.out); have HB2 := Lib.hid (HB.out.trans (hb.mono HB.out.size)); obtain ⟨r0, r1, r2⟩ := frcell HR2.out; have f0 := blk_frozen HR2.out 0; have f1 := blk_frozen HR2.out 1; have f2 := blk_frozen HR2.out 2; clear hb))
  refine bodyPost_ret (v := fr 1 0 B) (by unfold fr; simp [results, Tryz.results112, go_sem, r0, r1, r2]) rfl ⟨rfl, ?_⟩
  exact ((HB2.out.setCell (by simp; done) _).setCell (by simp; done) _).setCell (by simp; done) _
end Go.Proofs.YtljbchghbpmghaaGreatDoor

/- connect.Parse: any body. -/
import Derived.Test.YtljbchghbpmghaaGreatDoorS11
namespace Go.Proofs.YtljbchghbpmghaaGreatDoor
open Go.RowKit Go.Lib Go.Proofs.YtljbchghbpmghaaGreatDoorW.PrintWords Go.Proofs.YtljbchghbpmghaaGreatDoor.PSwitchboardGreat
set_option linter.unusedVariables false
set_option linter.unusedSimpArgs false
/-- A connect. -/
structure ND where
  cl : Bool
  keep : Nat
  L : List PR
  hw : Bool
  q : Nat
  rt : Bool
  hu : Bool
  hp : Bool
  t : TD
structure ND.Ok (d : ND) : Prop where
  keep : d.keep < 65536
  L : LOk d.L
  q : d.q < 4
  t : d.t.Ok
def ND.cells (d : ND) (A : Option Addr) (cc : Nat) (A' : Option Addr) (cc' : Nat) : Array Value := #[.bool d.cl, .int .u32 (d.keep : Nat), .slice A d.L.length cc, .string d.t.id, .bool d.hw, .slice A' d.t.WL.length cc', .string d.t.wt, .string d.t.wp, .int .u8 (d.q : Nat), .bool d.rt, .bool d.hu, .bool d.hp, .string d.t.us, .string d.t.pa]
def ND.len (d : ND) : Nat := 10 + (putB d.L).length + d.t.len d.hw d.hu d.hp
def ConP (w : World) (s : ByteArray) (e : Ending) (w' : World) : Prop := ∃ (d : ND) (A : Option Addr) (c : Nat) (A' : Option Addr) (c' : Nat) (er : Int), e = .returned (.tuple #[.agg (d.cells A c A' c'), .int .i64 er]) ∧ Below w.heap.size w w' ∧ (er = 0 → d.Ok ∧ PO w' 0 (fun _ => True) (.slice A d.L.length c) d.L ∧ PO w' 0 (fun _ => True) (.slice A' d.t.WL.length c') d.t.WL ∧ d.len ≤ s.size)
theorem sz4 {f : ByteArray} (h : (!f.toList == [77, 81, 84, 84]) = false) : f.size = 4 := by
  have h1 : f.toList = [77, 81, 84, 84] := by simpa using h
  have h2 := congrArg List.length h1
  rw [Lib.toList_data] at h2
  rw [Lib.size_eq]; exact h2
theorem set14 {w : World} {b : Nat} {t : TypeId} {a0 a1 a2 a3 a4 a5 a6 a7 a8 a9 a10 a11 a12 a13 : Value} (h0 : w.heap[b]? = some (.cells #[a0, a1, a2, a3, a4, a5, a6, a7, a8, a9, a10, a11, a12, a13] t (0, 0))) (ht : t ≠ 144) (v0 v1 v2 v3 v4 v5 v6 v7 v8 v9 v10 v11 v12 v13 : Value) : ∃ W, W = ((((((((((((((w.setCell ⟨b, 0, none⟩ v0).setCell ⟨b, 1, none⟩ v1).setCell ⟨b, 2, none⟩ v2).setCell ⟨b, 3, none⟩ v3).setCell ⟨b, 4, none⟩ v4).setCell ⟨b, 5, none⟩ v5).setCell ⟨b, 6, none⟩ v6).setCell ⟨b, 7, none⟩ v7).setCell ⟨b, 8, none⟩ v8).setCell ⟨b, 9, none⟩ v9).setCell ⟨b, 10, none⟩ v10).setCell ⟨b, 11, none⟩ v11).setCell ⟨b, 12, none⟩ v12).setCell ⟨b, 13, none⟩ v13) ∧ W.heap[b]? = some (.cells #[v0, v1, v2, v3, v4, v5, v6, v7, v8, v9, v10, v11, v12, v13] t (0, 0)) ∧ (∀ B w0, Below B w0 w → B ≤ b → Below B w0 W) ∧ (∀ B ok v L, PO w B ok v L → PO W B ok v L) := by
  obtain ⟨w1, hw1⟩ : ∃ W, W = w.setCell ⟨b, 0, none⟩ v0 := ⟨_, rfl⟩
  have h1 : w1.heap[b]? = some (.cells #[v0, a1, a2, a3, a4, a5, a6, a7, a8, a9, a10, a11, a12, a13] t (0, 0)) := hw1 ▸ blk_put h0 0 v0 rfl
  obtain ⟨w2, hw2⟩ : ∃ W, W = w1.setCell ⟨b, 1, none⟩ v1 := ⟨_, rfl⟩
  have h2 : w2.heap[b]? = some (.cells #[v0, v1, a2, a3, a4, a5, a6, a7, a8, a9, a10, a11, a12, a13] t (0, 0)) := hw2 ▸ blk_put h1 1 v1 rfl
  obtain ⟨w3, hw3⟩ : ∃ W, W = w2.setCell ⟨b, 2, none⟩ v2 := ⟨_, rfl⟩
  have h3 : w3.heap[b]? = some (.cells #[v0, v1, v2, a3, a4, a5, a6, a7, a8, a9, a10, a11, a12, a13] t (0, 0)) := hw3 ▸ blk_put h2 2 v2 rfl
  obtain ⟨w4, hw4⟩ : ∃ W, W = w3.setCell ⟨b, 3, none⟩ v3 := ⟨_, rfl⟩
  have h4 : w4.heap[b]? = some (.cells #[v0, v1, v2, v3, a4, a5, a6, a7, a8, a9, a10, a11, a12, a13] t (0, 0)) := hw4 ▸ blk_put h3 3 v3 rfl
  obtain ⟨w5, hw5⟩ : ∃ W, W = w4.setCell ⟨b, 4, none⟩ v4 := ⟨_, rfl⟩
  have h5 : w5.heap[b]? = some (.cells #[v0, v1, v2, v3, v4, a5, a6, a7, a8, a9, a10, a11, a12, a13] t (0, 0)) := hw5 ▸ blk_put h4 4 v4 rfl
  obtain ⟨w6, hw6⟩ : ∃ W, W = w5.setCell ⟨b, 5, none⟩ v5 := ⟨_, rfl⟩
  have h6 : w6.heap[b]? = some (.cells #[v0, v1, v2, v3, v4, v5, a6, a7, a8, a9, a10, a11, a12, a13] t (0, 0)) := hw6 ▸ blk_put h5 5 v5 rfl
  obtain ⟨w7, hw7⟩ : ∃ W, W = w6.setCell ⟨b, 6, none⟩ v6 := ⟨_, rfl⟩
  have h7 : w7.heap[b]? = some (.cells #[v0, v1, v2, v3, v4, v5, v6, a7, a8, a9, a10, a11, a12, a13] t (0, 0)) := hw7 ▸ blk_put h6 6 v6 rfl
  obtain ⟨w8, hw8⟩ : ∃ W, W = w7.setCell ⟨b, 7, none⟩ v7 := ⟨_, rfl⟩
  have h8 : w8.heap[b]? = some (.cells #[v0, v1, v2, v3, v4, v5, v6, v7, a8, a9, a10, a11, a12, a13] t (0, 0)) := hw8 ▸ blk_put h7 7 v7 rfl
  obtain ⟨w9, hw9⟩ : ∃ W, W = w8.setCell ⟨b, 8, none⟩ v8 := ⟨_, rfl⟩
  have h9 : w9.heap[b]? = some (.cells #[v0, v1, v2, v3, v4, v5, v6, v7, v8, a9, a10, a11, a12, a13] t (0, 0)) := hw9 ▸ blk_put h8 8 v8 rfl
  obtain ⟨w10, hw10⟩ : ∃ W, W = w9.setCell ⟨b, 9, none⟩ v9 := ⟨_, rfl⟩
  have h10 : w10.heap[b]? = some (.cells #[v0, v1, v2, v3, v4, v5, v6, v7, v8, v9, a10, a11, a12, a13] t (0, 0)) := hw10 ▸ blk_put h9 9 v9 rfl
  obtain ⟨w11, hw11⟩ : ∃ W, W = w10.setCell ⟨b, 10, none⟩ v10 := ⟨_, rfl⟩
  have h11 : w11.heap[b]? = some (.cells #[v0, v1, v2, v3, v4, v5, v6, v7, v8, v9, v10, a11, a12, a13] t (0, 0)) := hw11 ▸ blk_put h10 10 v10 rfl
  obtain ⟨w12, hw12⟩ : ∃ W, W = w11.setCell ⟨b, 11, none⟩ v11 := ⟨_, rfl⟩
  have h12 : w12.heap[b]? = some (.cells #[v0, v1, v2, v3, v4, v5, v6, v7, v8, v9, v10, v11, a12, a13] t (0, 0)) := hw12 ▸ blk_put h11 11 v11 rfl
  obtain ⟨w13, hw13⟩ : ∃ W, W = w12.setCell ⟨b, 12, none⟩ v12 := ⟨_, rfl⟩
  have h13 : w13.heap[b]? = some (.cells #[v0, v1, v2, v3, v4, v5, v6, v7, v8, v9, v10, v11, v12, a13] t (0, 0)) := hw13 ▸ blk_put h12 12 v12 rfl
  obtain ⟨w14, hw14⟩ : ∃ W, W = w13.setCell ⟨b, 13, none⟩ v13 := ⟨_, rfl⟩
  have h14 : w14.heap[b]? = some (.cells #[v0, v1, v2, v3, v4, v5, v6, v7, v8, v9, v10, v11, v12, v13] t (0, 0)) := hw14 ▸ blk_put h13 13 v13 rfl
  refine ⟨w14, ?_, h14, fun B w0 hb hB => ?_, fun B ok v L hp => ?_⟩
  · rw [hw14, hw13, hw12, hw11, hw10, hw9, hw8, hw7, hw6, hw5, hw4, hw3, hw2, hw1]
  · rw [hw14, hw13, hw12, hw11, hw10, hw9, hw8, hw7, hw6, hw5, hw4, hw3, hw2, hw1]
    exact (bset (bset (bset (bset (bset (bset (bset (bset (bset (bset (bset (bset (bset (bset hb b 0 _ hB) b 1 _ hB) b 2 _ hB) b 3 _ hB) b 4 _ hB) b 5 _ hB) b 6 _ hB) b 7 _ hB) b 8 _ hB) b 9 _ hB) b 10 _ hB) b 11 _ hB) b 12 _ hB) b 13 _ hB)
  · have p1 : PO w1 B ok v L := hw1 ▸ PO.setc hp b 0 v0 h0 ht
    have p2 : PO w2 B ok v L := hw2 ▸ PO.setc p1 b 1 v1 h1 ht
    have p3 : PO w3 B ok v L := hw3 ▸ PO.setc p2 b 2 v2 h2 ht
    have p4 : PO w4 B ok v L := hw4 ▸ PO.setc p3 b 3 v3 h3 ht
    have p5 : PO w5 B ok v L := hw5 ▸ PO.setc p4 b 4 v4 h4 ht
    have p6 : PO w6 B ok v L := hw6 ▸ PO.setc p5 b 5 v5 h5 ht
    have p7 : PO w7 B ok v L := hw7 ▸ PO.setc p6 b 6 v6 h6 ht
    have p8 : PO w8 B ok v L := hw8 ▸ PO.setc p7 b 7 v7 h7 ht
    have p9 : PO w9 B ok v L := hw9 ▸ PO.setc p8 b 8 v8 h8 ht
    have p10 : PO w10 B ok v L := hw10 ▸ PO.setc p9 b 9 v9 h9 ht
    have p11 : PO w11 B ok v L := hw11 ▸ PO.setc p10 b 10 v10 h10 ht
    have p12 : PO w12 B ok v L := hw12 ▸ PO.setc p11 b 11 v11 h11 ht
    have p13 : PO w13 B ok v L := hw13 ▸ PO.setc p12 b 12 v12 h12 ht
    have p14 : PO w14 B ok v L := hw14 ▸ PO.setc p13 b 13 v13 h13 ht
    exact p14
theorem q_of (fl : Nat) (h : fl < 256) : ∃ q : Nat, q < 4 ∧ Go.bits .and .u8 ((fl : Int) / 8) 3 = (q : Nat) := by
  have h1 : ∀ n : Fin 256, Go.bits .and .u8 (((n.1 : Nat) : Int) / 8) 3 = ((n.1 / 8 % 4 : Nat) : Int) := by decide +kernel
  exact ⟨fl / 8 % 4, Nat.mod_lt _ (by decide), h1 ⟨fl, h⟩⟩
set_option maxHeartbeats 4000000 in
set_option maxRecDepth 1000000 in
theorem conparse_calls {w : World} (s : ByteArray) (hs : s.size ≤ 100000) : Calls Tryz.prog 35 #[.string s] w (ConP w s) := by
  have HSS := Lib.hid hs
  have HX0 := Lib.hid (heap_alloc_new w (.cells #[.bool false, .int .u32 0, .slice none 0 0, .string ⟨#[]⟩, .bool false, .slice none 0 0, .string ⟨#[]⟩, .string ⟨#[]⟩, .int .u8 0, .bool false, .bool false, .bool false, .string ⟨#[]⟩, .string ⟨#[]⟩] 85))
  have HW0 := Lib.hid (show Below w.heap.size w (w.alloc (.cells #[.bool false, .int .u32 0, .slice none 0 0, .string ⟨#[]⟩, .bool false, .slice none 0 0, .string ⟨#[]⟩, .string ⟨#[]⟩, .int .u8 0, .bool false, .bool false, .bool false, .string ⟨#[]⟩, .string ⟨#[]⟩] 85)) from (Below.refl _ _).alloc (Nat.le_refl _) _)
  clear hs
  go_enter Tryz.func35, Tryz.ntmps35
  go_upto_region 3 with (first
    | (go_at_call 23; refine (over_in s).mono ?_; rintro e w1 ⟨g, rfl, hi, hg, hb⟩; have HG := Lib.hid (show w.heap.size ≤ g by have := HW0.out.size; omega); have HNX := Lib.hid (show w.heap.size ≠ g by have := blk_lt HX0.out; omega); have HX1 := Lib.hid (hb.block _ (blk_lt HX0.out) |>.trans HX0.out); have HW1 := Lib.hid (HW0.out.trans (hb.mono HW0.out.size)); have HI1 := Lib.hid hi; clear hi hg hb HX0)
    | (go_at_call 49; refine (wt_in HI1.out).mono ?_; rintro e w2 hp; obtain ⟨f, s2, e2, rfl, hf, hi, hc, hE⟩ := hp; have HE2 := Lib.hid hE; have HX2 := Lib.hid (hc.blk HX1.out HNX.out); have HW2 := Lib.hid (HW1.out.trans (hc.to_below HW1.out.size (fun k hk => hk ▸ HG.out))); have HI2 := Lib.hid hi; clear hi hc hE HI1 HX1))
  go_cut [20] (fun v20 wx => ∃ b : Bool, v20 = .bool b ∧ w2 = wx ∧ Hid (b = false → e2 = 0 → f.size = 4))
  case first =>
    go_wp2_with (first
      | (go_at_call 25; refine (err_same HI2.out).mono ?_; rintro e w29 ⟨rfl, rfl⟩))
    all_goals go_meet
    · exact ⟨_, rfl, rfl, Lib.hid (fun h _ => sz4 h)⟩
    · exact ⟨_, rfl, rfl, Lib.hid (fun _ h => absurd h ‹¬ e2 = 0›)⟩
  case rest =>
    obtain ⟨b, rfl, rfl, HSZ⟩ := hcut
    go_upto_if 20 with (fail)
    cases b with
    | true =>
      obtain ⟨r0, r1, r2, r3, r4, r5, r6, r7, r8, r9, r10, r11, r12, r13⟩ := ncell HX2.out
      have fz0 := blk_frozen HX2.out 0
      have fz1 := blk_frozen HX2.out 1
      have fz2 := blk_frozen HX2.out 2
      have fz3 := blk_frozen HX2.out 3
      have fz4 := blk_frozen HX2.out 4
      have fz5 := blk_frozen HX2.out 5
      have fz6 := blk_frozen HX2.out 6
      have fz7 := blk_frozen HX2.out 7
      have fz8 := blk_frozen HX2.out 8
      have fz9 := blk_frozen HX2.out 9
      have fz10 := blk_frozen HX2.out 10
      have fz11 := blk_frozen HX2.out 11
      have fz12 := blk_frozen HX2.out 12
      have fz13 := blk_frozen HX2.out 13
      go_wp2
      obtain ⟨WF, hWF, hF, hB, hP⟩ := set14 HX2.out (by decide) (.bool false) (.int .u32 0) (.slice none 0 0) (.string ⟨#[]⟩) (.bool false) (.slice none 0 0) (.string ⟨#[]⟩) (.string ⟨#[]⟩) (.int .u8 0) (.bool false) (.bool false) (.bool false) (.string ⟨#[]⟩) (.string ⟨#[]⟩)
      rw [← hWF]
      have HBF := Lib.hid (hB _ _ HW2.out (Nat.le_refl _))
      obtain ⟨o0, o1, o2, o3, o4, o5, o6, o7, o8, o9, o10, o11, o12, o13⟩ := ncell hF
      exact bodyPost_ret (v := .tuple #[.agg #[.bool false, .int .u32 0, .slice none 0 0, .string ⟨#[]⟩, .bool false, .slice none 0 0, .string ⟨#[]⟩, .string ⟨#[]⟩, .int .u8 0, .bool false, .bool false, .bool false, .string ⟨#[]⟩, .string ⟨#[]⟩], .int .i64 14]) (by simp [results, Tryz.results35, go_sem, o0, o1, o2, o3, o4, o5, o6, o7, o8, o9, o10, o11, o12, o13]) rfl ⟨(⟨false, 0, [], false, 0, false, false, false, ⟨⟨#[]⟩, [], ⟨#[]⟩, ⟨#[]⟩, ⟨#[]⟩, ⟨#[]⟩⟩⟩ : ND), none, 0, none, 0, 14, rfl, HBF.out, fun h => absurd h (by decide)⟩
    | false =>
      have HSZ2 := Lib.hid (HSZ.out rfl)
      clear HSZ
      go_upto_region 6 with (first
        | (go_at_call 42; refine (nt_byte HI2.out).mono ?_; rintro e w3 hp; obtain ⟨vv, s3, e3, rfl, hvv, hi, hc, hE⟩ := hp; have HE3 := Lib.hid (HE2.out.trans hE); have HQ3 := Lib.hid (show e3 = 0 → e2 = 0 from fun h => (hE h).1); have HX3 := Lib.hid (hc.blk HX2.out HNX.out); have HW3 := Lib.hid (HW2.out.trans (hc.to_below HW2.out.size (fun k hk => hk ▸ HG.out))); have HI3 := Lib.hid hi; clear hi hc hE HI2 HX2 hvv))
      go_cut [30] (fun v30 wx => ∃ b : Bool, v30 = .bool b ∧ w3 = wx)
      case first =>
        go_wp2_with (first
          | (go_at_call 25; refine (err_same HI3.out).mono ?_; rintro e w39 ⟨rfl, rfl⟩))
        all_goals go_meet
        all_goals exact ⟨_, rfl, rfl⟩
      case rest =>
        obtain ⟨b, rfl, rfl⟩ := hcut
        go_upto_if 30 with (fail)
        cases b with
        | true =>
          obtain ⟨r0, r1, r2, r3, r4, r5, r6, r7, r8, r9, r10, r11, r12, r13⟩ := ncell HX3.out
          have fz0 := blk_frozen HX3.out 0
          have fz1 := blk_frozen HX3.out 1
          have fz2 := blk_frozen HX3.out 2
          have fz3 := blk_frozen HX3.out 3
          have fz4 := blk_frozen HX3.out 4
          have fz5 := blk_frozen HX3.out 5
          have fz6 := blk_frozen HX3.out 6
          have fz7 := blk_frozen HX3.out 7
          have fz8 := blk_frozen HX3.out 8
          have fz9 := blk_frozen HX3.out 9
          have fz10 := blk_frozen HX3.out 10
          have fz11 := blk_frozen HX3.out 11
          have fz12 := blk_frozen HX3.out 12
          have fz13 := blk_frozen HX3.out 13
          go_wp2
          obtain ⟨WF, hWF, hF, hB, hP⟩ := set14 HX3.out (by decide) (.bool false) (.int .u32 0) (.slice none 0 0) (.string ⟨#[]⟩) (.bool false) (.slice none 0 0) (.string ⟨#[]⟩) (.string ⟨#[]⟩) (.int .u8 0) (.bool false) (.bool false) (.bool false) (.string ⟨#[]⟩) (.string ⟨#[]⟩)
          rw [← hWF]
          have HBF := Lib.hid (hB _ _ HW3.out (Nat.le_refl _))
          obtain ⟨o0, o1, o2, o3, o4, o5, o6, o7, o8, o9, o10, o11, o12, o13⟩ := ncell hF
          exact bodyPost_ret (v := .tuple #[.agg #[.bool false, .int .u32 0, .slice none 0 0, .string ⟨#[]⟩, .bool false, .slice none 0 0, .string ⟨#[]⟩, .string ⟨#[]⟩, .int .u8 0, .bool false, .bool false, .bool false, .string ⟨#[]⟩, .string ⟨#[]⟩], .int .i64 14]) (by simp [results, Tryz.results35, go_sem, o0, o1, o2, o3, o4, o5, o6, o7, o8, o9, o10, o11, o12, o13]) rfl ⟨(⟨false, 0, [], false, 0, false, false, false, ⟨⟨#[]⟩, [], ⟨#[]⟩, ⟨#[]⟩, ⟨#[]⟩, ⟨#[]⟩⟩⟩ : ND), none, 0, none, 0, 14, rfl, HBF.out, fun h => absurd h (by decide)⟩
        | false =>
          go_upto_region 9 with (first
            | (go_at_call 42; refine (nt_byte HI3.out).mono ?_; rintro e w4 hp; obtain ⟨fl, s4, e4, rfl, hfl, hi, hc, hE⟩ := hp; have HFL := Lib.hid hfl; have HE4 := Lib.hid (HE3.out.trans hE); have HQ4 := Lib.hid (show e4 = 0 → e2 = 0 from fun h => HQ3.out (hE h).1); have HX4 := Lib.hid (hc.blk HX3.out HNX.out); have HW4 := Lib.hid (HW3.out.trans (hc.to_below HW3.out.size (fun k hk => hk ▸ HG.out))); have HI4 := Lib.hid hi; clear hi hc hE HI3 HX3 hfl))
          go_upto_region 10 with (fail)
          generalize decide (0 < Go.bits .and .u8 (fl : Int) 2) = cl
          generalize decide (0 < Go.bits .and .u8 (fl : Int) 4) = hw
          generalize decide (0 < Go.bits .and .u8 (fl : Int) 64) = hp
          generalize decide (0 < Go.bits .and .u8 (fl : Int) 128) = hu
          have HNB := Lib.hid (show w4.heap.size ≠ g by have := HI4.out.lt; omega)
          have HXB := Lib.hid (show w.heap.size ≠ w4.heap.size by have := blk_lt HX4.out; omega)
          have HLB := Lib.hid (show w.heap.size ≤ w4.heap.size from HW4.out.size)
          have hba := (Below.refl w4.heap.size w4).alloc (Nat.le_refl _) (.cells #[.bool cl, .int .u32 0, .slice none 0 0, .string ⟨#[]⟩, .bool hw, .slice none 0 0, .string ⟨#[]⟩, .string ⟨#[]⟩, .int .u8 0, .bool false, .bool hu, .bool hp, .string ⟨#[]⟩, .string ⟨#[]⟩] 85)
          have HI5 := Lib.hid (HI4.out.below hba)
          have HX5 := Lib.hid (blk_below HX4.out hba)
          have HW5 := Lib.hid (HW4.out.trans (hba.mono HW4.out.size))
          have HB5 := Lib.hid (heap_alloc_new w4 (.cells #[.bool cl, .int .u32 0, .slice none 0 0, .string ⟨#[]⟩, .bool hw, .slice none 0 0, .string ⟨#[]⟩, .string ⟨#[]⟩, .int .u8 0, .bool false, .bool hu, .bool hp, .string ⟨#[]⟩, .string ⟨#[]⟩] 85))
          clear hba HI4 HX4 HW4 HW3 HW2 HW1 HW0
          generalize (w4.alloc (.cells #[.bool cl, .int .u32 0, .slice none 0 0, .string ⟨#[]⟩, .bool hw, .slice none 0 0, .string ⟨#[]⟩, .string ⟨#[]⟩, .int .u8 0, .bool false, .bool hu, .bool hp, .string ⟨#[]⟩, .string ⟨#[]⟩] 85)) = W5 at HI5 HX5 HW5 HB5 ⊢
          go_cut [65] (fun v65 wx => ∃ b : Bool, v65 = .bool b ∧ W5 = wx)
          case first =>
            obtain ⟨n0, n1, n2, n3, n4, n5, n6, n7, n8, n9, n10, n11, n12, n13⟩ := ncell HB5.out
            go_wp2
            all_goals go_meet
            all_goals exact ⟨_, rfl, rfl⟩
          case rest =>
            obtain ⟨b, rfl, rfl⟩ := hcut
            go_upto_if 65 with (fail)
            go_cut [] (fun wx => ∃ e6 : Int, Hid (e6 = 0 → e4 = 0) ∧ Hid (IN wx g s4 e6) ∧ Hid (wx.heap[w4.heap.size]? = some (.cells #[.bool cl, .int .u32 0, .slice none 0 0, .string ⟨#[]⟩, .bool hw, .slice none 0 0, .string ⟨#[]⟩, .string ⟨#[]⟩, .int .u8 0, .bool false, .bool hu, .bool hp, .string ⟨#[]⟩, .string ⟨#[]⟩] 85 (0, 0))) ∧ Hid (wx.heap[w.heap.size]? = some (.cells #[.bool false, .int .u32 0, .slice none 0 0, .string ⟨#[]⟩, .bool false, .slice none 0 0, .string ⟨#[]⟩, .string ⟨#[]⟩, .int .u8 0, .bool false, .bool false, .bool false, .string ⟨#[]⟩, .string ⟨#[]⟩] 85 (0, 0))) ∧ Hid (Below w.heap.size w wx))
            case first =>
              cases b with
              | false =>
                go_wp2
                go_meet
                exact ⟨e4, Lib.hid (fun h => h), HI5, HB5, HX5, HW5⟩
              | true =>
                go_wp2_with (first | (go_at_call 43; (with_reducible refine (fail_any HI5.out 2 (by decide)).mono ?_); rintro e w6 hp; obtain ⟨ef, rfl, hef, hi, hc⟩ := hp; have HEF := Lib.hid hef; have HI6 := Lib.hid hi; have HB6 := Lib.hid (hc.blk HB5.out HNB.out); have HX6 := Lib.hid (hc.blk HX5.out HNX.out); have HW6 := Lib.hid (HW5.out.trans (hc.to_below HW5.out.size (fun k hk => hk ▸ HG.out))); clear hef hi hc))
                go_meet
                exact ⟨ef, Lib.hid (fun h => absurd h HEF.out), HI6, HB6, HX6, HW6⟩
            case rest =>
              clear HI5 HX5 HW5 HB5
              obtain ⟨e6, HQ6, HI6, HB6, HX6, HW6⟩ := hcut
              have HE6 := Lib.hid (HE4.out.err HQ6.out)
              obtain ⟨n0, n1, n2, n3, n4, n5, n6, n7, n8, n9, n10, n11, n12, n13⟩ := ncell HB6.out
              have fz8 := blk_frozen HB6.out 8
              have fz9 := blk_frozen HB6.out 9
              go_upto_region 13 with (fail)
              obtain ⟨q, hq, hqe⟩ := q_of fl HFL.out
              have HQ := Lib.hid hq
              rw [hqe]
              generalize decide (0 < Go.bits .and .u8 (fl : Int) 32) = rt
              clear hq hqe fz8 fz9 n0 n1 n2 n3 n4 n5 n6 n7 n8 n9 n10 n11 n12 n13
              have HB7 := Lib.hid (blk_put (blk_put HB6.out 8 (.int .u8 (q : Nat)) rfl) 9 (.bool rt) rfl)
              have HX7 := Lib.hid (blk_sfar (blk_sfar HX6.out 8 (.int .u8 (q : Nat)) HXB.out) 9 (.bool rt) HXB.out)
              have HI7 := Lib.hid ((HI6.out.setc w4.heap.size 8 (.int .u8 (q : Nat)) (fun e => HNB.out e.symm)).setc w4.heap.size 9 (.bool rt) (fun e => HNB.out e.symm))
              have HW7 := Lib.hid (bset (bset HW6.out w4.heap.size 8 (.int .u8 (q : Nat)) HLB.out) w4.heap.size 9 (.bool rt) HLB.out)
              clear HB6 HX6 HI6 HW6
              generalize ((wc.setCell ⟨w4.heap.size, 8, none⟩ (.int .u8 (q : Nat))).setCell ⟨w4.heap.size, 9, none⟩ (.bool rt)) = W7 at HI7 HX7 HW7 HB7 ⊢
              obtain ⟨n0, n1, n2, n3, n4, n5, n6, n7, n8, n9, n10, n11, n12, n13⟩ := ncell HB7.out
              go_upto_region 14 with (first
                | (go_at_call 50; (with_reducible refine (nt_two HI7.out).mono ?_); rintro e w8 hp; obtain ⟨kp, s8, e8, rfl, hk, hi, hc, hE⟩ := hp; have HKP := Lib.hid hk; have HE8 := Lib.hid (HE6.out.trans hE); have HQ8 := Lib.hid (show e8 = 0 → e6 = 0 from fun h => (hE h).1); have fz1 := blk_frozen (hc.blk HB7.out HNB.out) 1; have cz := ncell (hc.blk HB7.out HNB.out); have HI8 := Lib.hid (hi.setc w4.heap.size 1 (.int .u32 (kp : Nat)) (fun e => HNB.out e.symm)); have HB8 := Lib.hid (blk_put (hc.blk HB7.out HNB.out) 1 (.int .u32 (kp : Nat)) rfl); have HX8 := Lib.hid (blk_sfar (hc.blk HX7.out HNX.out) 1 (.int .u32 (kp : Nat)) HXB.out); have HW8 := Lib.hid (bset (HW7.out.trans (hc.to_below HW7.out.size (fun k hk => hk ▸ HG.out))) w4.heap.size 1 (.int .u32 (kp : Nat)) HLB.out); obtain ⟨m0, m1, m2, m3, m4, m5, m6, m7, m8, m9, m10, m11, m12, m13⟩ := cz; clear hk hE hi hc))
              clear HI7 HX7 HW7 HB7 fz1 n0 n1 n2 n3 n4 n5 n6 n7 n8 n9 n10 n11 n12 n13 m0 m1 m2 m3 m4 m5 m6 m7 m8 m9 m10 m11 m12 m13
              generalize (w8.setCell ⟨w4.heap.size, 1, none⟩ (.int .u32 (kp : Nat))) = W8 at HI8 HX8 HW8 HB8 ⊢
              obtain ⟨n0, n1, n2, n3, n4, n5, n6, n7, n8, n9, n10, n11, n12, n13⟩ := ncell HB8.out
              have HTK := Lib.hid (take0_calls HI8.out (show e8 = 0 → s8.size ≤ 100000 from fun h => by have h1 := (HE8.out h).2; have h2 := HSS.out; omega) 1 false)
              go_upto_region 15 with (first
                | (go_at_call 51; (with_reducible refine HTK.out.mono ?_); rintro e w9 hp; obtain ⟨v, L, s9, e9, rfl, hpo, hok, hi, hc, hE⟩ := hp; have fz2 := blk_frozen (hc.blk HB8.out HNB.out) 2; have cz := ncell (hc.blk HB8.out HNB.out); have HI9 := Lib.hid (hi.setc w4.heap.size 2 v (fun e => HNB.out e.symm)); have HB9 := Lib.hid (blk_put (hc.blk HB8.out HNB.out) 2 v rfl); have HX9 := Lib.hid (blk_sfar (hc.blk HX8.out HNX.out) 2 v HXB.out); have HW9 := Lib.hid (bset (HW8.out.trans (hc.to_below HW8.out.size (fun k hk => hk ▸ HG.out))) w4.heap.size 2 v HLB.out); have HE9 := Lib.hid (HE8.out.trans hE); have HQ9 := Lib.hid (show e9 = 0 → e8 = 0 from fun h => (hE h).1); have HOK := Lib.hid hok; have HO9 := Lib.hid (hpo.setc w4.heap.size 2 v (hc.blk HB8.out HNB.out) (by decide)); obtain ⟨A, cc, rfl, hcc, _⟩ := HO9.out.form; obtain ⟨m0, m1, m2, m3, m4, m5, m6, m7, m8, m9, m10, m11, m12, m13⟩ := cz; clear hpo hok hE hi hc hcc))
              clear HI8 HX8 HW8 HB8 HTK fz2 n0 n1 n2 n3 n4 n5 n6 n7 n8 n9 n10 n11 n12 n13 m0 m1 m2 m3 m4 m5 m6 m7 m8 m9 m10 m11 m12 m13
              generalize (w9.setCell ⟨w4.heap.size, 2, none⟩ (.slice A L.length cc)) = W9 at HI9 HX9 HW9 HB9 HO9 ⊢
              have HTK := Lib.hid (parts_calls hw hu hp HB9.out HI9.out (show e9 = 0 → s9.size ≤ 100000 from fun h => by have h1 := (HE9.out h).2; have h2 := HSS.out; omega))
              go_upto_region 16 with (first
                | (go_at_call 52; (with_reducible refine HTK.out.mono ?_); rintro e w10 hp; obtain ⟨d, A', cc', s10, e10, rfl, hok, hb, hi, hc, hpo, hE⟩ := hp; have HBA := Lib.hid hb; have HIA := Lib.hid hi; have HNY := Lib.hid (show ¬ (w.heap.size = g ∨ w.heap.size = w4.heap.size) from fun h => h.elim HNX.out HXB.out); have HXA := Lib.hid (hc.blk HX9.out HNY.out); have HWA := Lib.hid (HW9.out.trans (hc.to_below HW9.out.size (fun k hk => hk.elim (fun h => h ▸ HG.out) (fun h => h ▸ HLB.out)))); have HEA := Lib.hid (HE9.out.trans hE); have HQA := Lib.hid (show e10 = 0 → e9 = 0 from fun h => (hE h).1); have HTO := Lib.hid hok; have HPA := Lib.hid hpo; have HOA := Lib.hid (HO9.out.to hc (fun k hk => .inr (hk.elim (fun h => ⟨_, _, h ▸ HI9.out, by decide⟩) (fun h => ⟨_, _, h ▸ HB9.out, by decide⟩)))); clear hok hb hi hc hpo hE))
              clear HI9 HX9 HW9 HB9 HTK HO9
              have HEND := Lib.hid (fun (h : endR s10 e10 = 0) => endR_0 h)
              have HCE := Lib.hid (end_in HIA.out)
              generalize endR s10 e10 = er at HEND HCE
              by_cases her : er = 0
              · obtain rfl := her
                have HFIN := Lib.hid (HEND.out rfl)
                have HLEN := Lib.hid (show (⟨cl, kp, L, hw, q, rt, hu, hp, d⟩ : ND).len ≤ s.size by
                  have h0 := HFIN.out.1
                  have h1 := (HEA.out h0).2
                  have h2 := HSZ2.out (HQ4.out (HQ6.out (HQ8.out (HQ9.out (HQA.out h0)))))
                  unfold ND.len
                  dsimp only
                  omega)
                go_wp2_with (first | (go_at_call 53; (with_reducible refine (HCE.out).mono ?_); rintro e w11 ⟨rfl, hi, hc⟩; have HBB := Lib.hid (hc.blk HBA.out HNB.out); have HXB2 := Lib.hid (hc.blk HXA.out HNX.out); have HWB := Lib.hid (HWA.out.trans (hc.to_below HWA.out.size (fun k hk => hk ▸ HG.out))); have HOB := Lib.hid (HOA.out.rd HIA.out hc); have HPB := Lib.hid (HPA.out.rd HIA.out hc); obtain ⟨c0, c1, c2, c3, c4, c5, c6, c7, c8, c9, c10, c11, c12, c13⟩ := ncell HBB.out; obtain ⟨r0, r1, r2, r3, r4, r5, r6, r7, r8, r9, r10, r11, r12, r13⟩ := ncell HXB2.out; have fz0 := blk_frozen HXB2.out 0; have fz1 := blk_frozen HXB2.out 1; have fz2 := blk_frozen HXB2.out 2; have fz3 := blk_frozen HXB2.out 3; have fz4 := blk_frozen HXB2.out 4; have fz5 := blk_frozen HXB2.out 5; have fz6 := blk_frozen HXB2.out 6; have fz7 := blk_frozen HXB2.out 7; have fz8 := blk_frozen HXB2.out 8; have fz9 := blk_frozen HXB2.out 9; have fz10 := blk_frozen HXB2.out 10; have fz11 := blk_frozen HXB2.out 11; have fz12 := blk_frozen HXB2.out 12; have fz13 := blk_frozen HXB2.out 13; clear hi hc))
                obtain ⟨WF, hWF, hF, hB, hP⟩ := set14 HXB2.out (by decide) (.bool cl) (.int .u32 (kp : Nat)) (.slice A L.length cc) (.string d.id) (.bool hw) (.slice A' d.WL.length cc') (.string d.wt) (.string d.wp) (.int .u8 (q : Nat)) (.bool rt) (.bool hu) (.bool hp) (.string d.us) (.string d.pa)
                rw [← hWF]
                have HBF := Lib.hid (hB _ _ HWB.out (Nat.le_refl _))
                have HOF := Lib.hid (hP _ _ _ _ HOB.out)
                have HPF := Lib.hid (hP _ _ _ _ HPB.out)
                obtain ⟨o0, o1, o2, o3, o4, o5, o6, o7, o8, o9, o10, o11, o12, o13⟩ := ncell hF
                exact bodyPost_ret (v := .tuple #[.agg #[.bool cl, .int .u32 (kp : Nat), .slice A L.length cc, .string d.id, .bool hw, .slice A' d.WL.length cc', .string d.wt, .string d.wp, .int .u8 (q : Nat), .bool rt, .bool hu, .bool hp, .string d.us, .string d.pa], .int .i64 0]) (by simp [results, Tryz.results35, go_sem, o0, o1, o2, o3, o4, o5, o6, o7, o8, o9, o10, o11, o12, o13]) rfl ⟨(⟨cl, kp, L, hw, q, rt, hu, hp, d⟩ : ND), A, cc, A', cc', 0, rfl, HBF.out, fun _ => ⟨⟨HKP.out, HOK.out, HQ.out, HTO.out⟩, HOF.out, HPF.out, HLEN.out⟩⟩
              · have hne : (er != 0) = true := by simpa [bne_iff_ne] using her
                have HER := Lib.hid her
                clear her
                go_wp2_with (first | (go_at_call 53; (with_reducible refine (HCE.out).mono ?_); rintro e w11 ⟨rfl, hi, hc⟩; have HBB := Lib.hid (hc.blk HBA.out HNB.out); have HXB2 := Lib.hid (hc.blk HXA.out HNX.out); have HWB := Lib.hid (HWA.out.trans (hc.to_below HWA.out.size (fun k hk => hk ▸ HG.out))); have HOB := Lib.hid (HOA.out.rd HIA.out hc); have HPB := Lib.hid (HPA.out.rd HIA.out hc); obtain ⟨c0, c1, c2, c3, c4, c5, c6, c7, c8, c9, c10, c11, c12, c13⟩ := ncell HBB.out; obtain ⟨r0, r1, r2, r3, r4, r5, r6, r7, r8, r9, r10, r11, r12, r13⟩ := ncell HXB2.out; have fz0 := blk_frozen HXB2.out 0; have fz1 := blk_frozen HXB2.out 1; have fz2 := blk_frozen HXB2.out 2; have fz3 := blk_frozen HXB2.out 3; have fz4 := blk_frozen HXB2.out 4; have fz5 := blk_frozen HXB2.out 5; have fz6 := blk_frozen HXB2.out 6; have fz7 := blk_frozen HXB2.out 7; have fz8 := blk_frozen HXB2.out 8; have fz9 := blk_frozen HXB2.out 9; have fz10 := blk_frozen HXB2.out 10; have fz11 := blk_frozen HXB2.out 11; have fz12 := blk_frozen HXB2.out 12; have fz13 := blk_frozen HXB2.out 13; clear hi hc))
                obtain ⟨WF, hWF, hF, hB, hP⟩ := set14 HXB2.out (by decide) (.bool false) (.int .u32 0) (.slice none 0 0) (.string ⟨#[]⟩) (.bool false) (.slice none 0 0) (.string ⟨#[]⟩) (.string ⟨#[]⟩) (.int .u8 0) (.bool false) (.bool false) (.bool false) (.string ⟨#[]⟩) (.string ⟨#[]⟩)
                rw [← hWF]
                have HBF := Lib.hid (hB _ _ HWB.out (Nat.le_refl _))
                obtain ⟨o0, o1, o2, o3, o4, o5, o6, o7, o8, o9, o10, o11, o12, o13⟩ := ncell hF
                exact bodyPost_ret (v := .tuple #[.agg #[.bool false, .int .u32 0, .slice none 0 0, .string ⟨#[]⟩, .bool false, .slice none 0 0, .string ⟨#[]⟩, .string ⟨#[]⟩, .int .u8 0, .bool false, .bool false, .bool false, .string ⟨#[]⟩, .string ⟨#[]⟩], .int .i64 er]) (by simp [results, Tryz.results35, go_sem, o0, o1, o2, o3, o4, o5, o6, o7, o8, o9, o10, o11, o12, o13]) rfl ⟨(⟨false, 0, [], false, 0, false, false, false, ⟨⟨#[]⟩, [], ⟨#[]⟩, ⟨#[]⟩, ⟨#[]⟩, ⟨#[]⟩⟩⟩ : ND), none, 0, none, 0, er, rfl, HBF.out, fun h => absurd h HER.out⟩
end Go.Proofs.YtljbchghbpmghaaGreatDoor

/- Parts of a proof about aliases: C4, C5, C6, C7. -/
import Derived.Deep.RegionHeld3
import Derived.IntWalk
import Derived.Test.YtbfgpkogginmjaaGreatDoorZ13
import Derived.Test.YtbfgpkogginmjaaGreatDoorZ17
import Derived.Test.YtbfgpkogginmjaaGreatDoorZ20
import Derived.Test.YtbfgpkogginmjaaGreatDoorZ21
section
namespace Go.Proofs.YtbfgpkogginmjaaGreatDoor
open Go.RowKit Go.Lib Go.Proofs.YtbfgpkogginmjaaGreatDoorW.PrintWords Go.Proofs.YtbfgpkogginmjaaGreatDoor.PSwitchboardGreat
set_option linter.unusedVariables false
set_option linter.unusedSimpArgs false
set_option maxRecDepth 1000000
def pubC (id : Nat) (n : ByteArray) : Array Value := #[.bool false, .bool false, .int .u8 0, .int .u32 (id : Nat), .slice none 0 0, .string n, .string ⟨#[]⟩]
def pubV (id : Nat) (n : ByteArray) : Value := .agg (pubC id n)
def pd0 (id : Nat) (n : ByteArray) : PD := ⟨false, false, 0, id, [], n, ⟨#[]⟩⟩
theorem pd0_ok (id : Nat) (n : ByteArray) (hid : id ≤ 65535) (hn : n.size ≤ 100) : (pd0 id n).Ok := ⟨by show 0 < 4; decide, by show id ≤ _; omega, lok_nil, by show n.size ≤ _; omega, by show 0 ≤ _; omega⟩
theorem pd0_body (id : Nat) (n : ByteArray) : (pd0 id n).body = dat n ++ [0] := by
  have h : putB [] = [0] := by
    unfold putB
    show varU 0 ++ [] = _
    rw [varU]
    rfl
  show dat n ++ ([] ++ (putB [] ++ [])) = _
  rw [h]
  rfl
def pubB (n : ByteArray) : ByteArray := toB (dat n ++ [0])
theorem pubB_size (n : ByteArray) (h : n.size ≤ 100) : (pubB n).size = n.size + 3 := by
  unfold pubB
  show (dat n ++ [0]).toArray.size = _
  rw [List.size_toArray, List.length_append]
  show (be2 n.size ++ n.data.toList).length + 1 = _
  rw [List.length_append]
  show 2 + n.data.toList.length + 1 = _
  rw [Array.length_toList]
  show 2 + n.size + 1 = _
  omega
theorem pub0_frame {w : World} (id : Nat) (n : ByteArray) (hid : id ≤ 65535) (hn : n.size ≤ 100) : FrameIs w 45 (pubV id n) 3 0 (pubB n) 381 := fun W hb => by
  have h := pubframe_calls (w := W) (pd0 id n) none 0 (pd0_ok id n hid hn) (Nat.le_refl _) (by
    show PL W none []
    exact Kd.C_nil _ _)
  rw [pd0_body] at h
  exact h
theorem pub0_text {w : World} (id : Nat) (n : ByteArray) (hid : id ≤ 65535) (hn : n.size ≤ 100) : Calls Tryz.prog 22 #[.iface 45 (pubV id n)] w fun e w' => e = .returned (.string (toB (frB 3 0 (pubB n)))) ∧ Below w.heap.size w w' :=
  text_pub _ 3 0 _ (by decide) (by decide) (by rw [pubB_size n hn]; omega) (pub0_frame id n hid hn)
set_option maxHeartbeats 1000000 in
theorem spub_calls {w : World} (g : Value) (f n : ByteArray) (id : Nat) (now : Int) : Calls Tryz.prog 166 #[g, msg f n, .int .u32 id, .bool false, .int .i64 now] w (RB (pubV id n) w) := by
  have HP := fun W => Lib.hid (pub_calls (w := W) f n now)
  have HM := Lib.hid (show ((w.alloc (Obj.cells #[.string f, .int .i64 0, .int .u8 0, .bool false, .slice none 0 0, .string n, .string ⟨#[]⟩] 278)).alloc (Obj.cells #[.bool false, .bool false, .int .u8 0, .int .u32 0, .slice none 0 0, .string ⟨#[]⟩, .string ⟨#[]⟩] 45)).heap[w.heap.size]? = some (Obj.cells #[.string f, .int .i64 0, .int .u8 0, .bool false, .slice none 0 0, .string n, .string ⟨#[]⟩] 278) from blk_alloc (blk_top rfl) _)
  have HR := Lib.hid (show ((w.alloc (Obj.cells #[.string f, .int .i64 0, .int .u8 0, .bool false, .slice none 0 0, .string n, .string ⟨#[]⟩] 278)).alloc (Obj.cells #[.bool false, .bool false, .int .u8 0, .int .u32 0, .slice none 0 0, .string ⟨#[]⟩, .string ⟨#[]⟩] 45)).heap[w.heap.size + 1]? = some (Obj.cells #[.bool false, .bool false, .int .u8 0, .int .u32 0, .slice none 0 0, .string ⟨#[]⟩, .string ⟨#[]⟩] 45) from blk_top (by simp [World.size_alloc]))
  have HB := Lib.hid (show Below w.heap.size w ((w.alloc (Obj.cells #[.string f, .int .i64 0, .int .u8 0, .bool false, .slice none 0 0, .string n, .string ⟨#[]⟩] 278)).alloc (Obj.cells #[.bool false, .bool false, .int .u8 0, .int .u32 0, .slice none 0 0, .string ⟨#[]⟩, .string ⟨#[]⟩] 45)) by (with_reducible (repeat (first | exact Below.refl _ _ | assumption | apply Below.drew | apply bel_alloc | (refine Below.into ?_ (by assumption)) | (refine bel_set ?_ (by first | exact Nat.le_refl _ | assumption | omega | (simp only [World.size_alloc]; omega)))))))
  unfold msg pubv at HP
  unfold msg
  go_enter Tryz.func166, Tryz.ntmps166
  go_upto_region 1 with (fail)
  generalize ((w.alloc (Obj.cells #[.string f, .int .i64 0, .int .u8 0, .bool false, .slice none 0 0, .string n, .string ⟨#[]⟩] 278)).alloc (Obj.cells #[.bool false, .bool false, .int .u8 0, .int .u32 0, .slice none 0 0, .string ⟨#[]⟩, .string ⟨#[]⟩] 45)) = W at HM HR HB ⊢
  obtain ⟨m0, m1, m2, m3, m4, m5, m6⟩ := sevencell HM.out
  go_upto_region 2 with (first
    | (go_at_call 220; (with_reducible refine ((HP _).out).mono ?_); rintro e w1 ⟨rfl, hb⟩; have HR1 := Lib.hid (blk_below HR.out hb); have HB1 := Lib.hid (Below.into HB.out hb); clear hb))
  have HX2 := Lib.hid (show (w1.alloc (Obj.cells #[.bool false, .bool false, .int .u8 0, .int .u32 0, .slice none 0 0, .string n, .string ⟨#[]⟩] 42)).heap[w1.heap.size]? = some (Obj.cells #[.bool false, .bool false, .int .u8 0, .int .u32 0, .slice none 0 0, .string n, .string ⟨#[]⟩] 42) from blk_top rfl)
  have HR2 := Lib.hid (show (w1.alloc (Obj.cells #[.bool false, .bool false, .int .u8 0, .int .u32 0, .slice none 0 0, .string n, .string ⟨#[]⟩] 42)).heap[w.heap.size + 1]? = some (Obj.cells #[.bool false, .bool false, .int .u8 0, .int .u32 0, .slice none 0 0, .string ⟨#[]⟩, .string ⟨#[]⟩] 45) from blk_alloc HR1.out _)
  have HB2 := Lib.hid (show Below w.heap.size w (w1.alloc (Obj.cells #[.bool false, .bool false, .int .u8 0, .int .u32 0, .slice none 0 0, .string n, .string ⟨#[]⟩] 42)) from bel_alloc HB1.out)
  have HN2 := Lib.hid (show w.heap.size + 1 < w1.heap.size from blk_lt HR1.out)
  generalize (w1.alloc (Obj.cells #[.bool false, .bool false, .int .u8 0, .int .u32 0, .slice none 0 0, .string n, .string ⟨#[]⟩] 42)) = W9 at HX2 HR2 HB2 ⊢
  generalize w1.heap.size = b at HX2 HN2 ⊢
  clear m0 m1 m2 m3 m4 m5 m6 HM HR HB HR1 HB1
  obtain ⟨x0, x1, x2, x3, x4, x5, x6⟩ := sevencell HX2.out
  have f0 := blk_frozen HX2.out 0; have f1 := blk_frozen HX2.out 1; have f2 := blk_frozen HX2.out 2; have f3 := blk_frozen HX2.out 3; have f4 := blk_frozen HX2.out 4; have f5 := blk_frozen HX2.out 5; have f6 := blk_frozen HX2.out 6
  go_upto_region 3 with (fail)
  have HX3 := Lib.hid (show ((W9.setCell ⟨b, 3, none⟩ (.int .u32 id)).setCell ⟨b, 0, none⟩ (.bool false)).heap[b]? = some (.cells #[.bool false, .bool false, .int .u8 0, .int .u32 id, .slice none 0 0, .string n, .string ⟨#[]⟩] 42 (0, 0)) from blk_put (blk_put HX2.out 3 (.int .u32 id) rfl) 0 (.bool false) rfl)
  have HC3 := Lib.hid ((chg_setc' (w := W9) b 3 (.int .u32 id)).trans (chg_setc' b 0 (.bool false)))
  have HR3 := Lib.hid (HC3.out.blk HR2.out (by have := HN2.out; omega))
  have HB3 := Lib.hid (HB2.out.trans (HC3.out.to_below HB2.out.size (fun k hk => by have := HN2.out; omega)))
  generalize ((W9.setCell ⟨b, 3, none⟩ (.int .u32 id)).setCell ⟨b, 0, none⟩ (.bool false)) = W3 at HX3 HC3 HR3 HB3 ⊢
  clear x0 x1 x2 x3 x4 x5 x6 f0 f1 f2 f3 f4 f5 f6
  obtain ⟨x0, x1, x2, x3, x4, x5, x6⟩ := sevencell HX3.out
  obtain ⟨r0, r1, r2, r3, r4, r5, r6⟩ := sevencell HR3.out
  have f0 := blk_frozen HR3.out 0; have f1 := blk_frozen HR3.out 1; have f2 := blk_frozen HR3.out 2; have f3 := blk_frozen HR3.out 3; have f4 := blk_frozen HR3.out 4; have f5 := blk_frozen HR3.out 5; have f6 := blk_frozen HR3.out 6
  go_wp2
  obtain ⟨WF, hWF, hF, hC⟩ := set7 HR3.out (.bool false) (.bool false) (.int .u8 0) (.int .u32 id) (.slice none 0 0) (.string n) (.string ⟨#[]⟩)
  rw [← hWF]
  exact bodyPost_ret (v := pubV id n) (by simp [results, Tryz.results166, go_sem, sevencell hF, pubV, pubC]) rfl ⟨rfl, HB3.out.trans (hC.to_below HB3.out.size (fun k hk => by omega))⟩
theorem varU_len5 (n : Nat) (h : n ≤ 268435455) : (varU n).length ≤ 5 := by
  rw [varU]
  split
  · simp
  · rw [varU]
    split
    · simp
    · rw [varU]
      split
      · simp
      · rw [varU]
        split
        · simp
        · omega
theorem fsz {n : Nat} (hn : n ≤ 100000) : ∃ N : Nat, N ≤ 200000 ∧ ∀ W, Calls Tryz.prog 67 #[.int .i64 n] W (RB (.int .i64 N) W) :=
  ⟨1 + (varU n).length + n, by have := varU_len5 n (by omega); omega, fun W => fsize_calls (w := W) n (by omega)⟩
theorem field_body (k f : Int) (B : ByteArray) (W : World) : Sem.run Tryz.prog (Instr.field 128 (.agg #[.int .i64 k, .int .i64 f, .string B]) 2) W = .ok (.string B) W := by kernel_rfl
set_option maxHeartbeats 1000000 in
theorem fits_calls {w : World} {g inn win que : Nat} {id : ByteArray} {rc ex : Int} (hs : Sess w g id rc 4294967295 ex inn win que true) (i : Nat) (n : ByteArray) (hi : i ≤ 65535) (hn : n.size ≤ 100) : Calls Tryz.prog 167 #[.pointer (some ⟨g, 0, none⟩), .iface 45 (pubV i n)] w (RB (.bool true) w) := by
  have HF := Lib.hid (pub0_frame (w := w) i n hi hn)
  have hz := pubB_size n hn
  generalize pubB n = B at HF hz
  obtain ⟨N, hN, HS⟩ := fsz (n := B.size) (by omega)
  have HS := Lib.hid HS
  have hN2 : (N : Int) ≤ 4294967295 := by omega
  have hm := method_pub (pubV i n)
  have hfd := field_body 3 0 B
  have HSS := Lib.hid (show Sess w.drew g id rc 4294967295 ex inn win que true from hs)
  have hs1 := HSS.out
  unfold Sess at hs1
  obtain ⟨s0, s1, s2, s3, s4, s5, s6, s7, s8⟩ := ninecell hs1
  have HB := Lib.hid (show Below w.heap.size w w.drew from (Below.refl _ _).drew)
  unfold FrameIs FrPost fr at HF
  clear hs hs1 hi hn hz
  go_enter Tryz.func167, Tryz.ntmps167
  go_upto_region 1 with (fail)

  go_region_held3 (fun w' => w'.cell? ⟨g, 2, none⟩ = some (.int .i64 4294967295)) (first | exact s2 | go_keep) (first
    | (go_at_call 381; (with_reducible refine (HF.out _ HB.out).mono ?_); rintro e w1 ⟨rfl, hb⟩; have HS1 := Lib.hid (blk_below HSS.out hb); have HB1 := Lib.hid (Below.into HB.out hb); have s2 := (ninecell HS1.out).2.2.1; clear hb)
    | (go_at_call 67; (with_reducible refine (HS.out _).mono ?_); rintro e w2 ⟨rfl, hb⟩; have HS2 := Lib.hid (blk_below HS1.out hb); have HB2 := Lib.hid (Below.into HB1.out hb); have s2 := (ninecell HS2.out).2.2.1; clear hb))
  go_wp2
  go_ret
  exact ⟨rfl, HB2.out⟩
theorem sagain_calls {w : World} {g inn win que pool : Nat} {id : ByteArray} {rc mo m0 ex : Int} {on : Bool} (hs : Sess w g id rc mo ex inn win que on) (hw : Win w win pool m0) (now : Int) : Calls Tryz.prog 120 #[.pointer (some ⟨g, 0, none⟩), .int .i64 now] w (Is (.slice none 0 0) w) := by
  have HR := Lib.hid (resend_calls hw)
  unfold Sess at hs
  obtain ⟨s0, s1, s2, s3, s4, s5, s6, s7, s8⟩ := ninecell hs
  clear hs hw
  go_enter Tryz.func120, Tryz.ntmps120
  go_upto_region 2 with (fail)
  refine wp_loop_rounds 1 ?_
  rw [rounds_succ]
  go_wp2_with (first
    | (go_at_call 165; (with_reducible refine (HR.out).mono ?_); rintro e w1 ⟨rfl, rfl⟩))
  go_ret
  exact ⟨rfl, rfl⟩
theorem sfirst0_calls {w : World} {g inn win que : Nat} {id : ByteArray} {rc mo ex : Int} {on : Bool} {A : Option Addr} {c : Nat} (hs : Sess w g id rc mo ex inn win que on) (hq : Que w que (.slice A 0 c)) (now : Int) : Calls Tryz.prog 121 #[.pointer (some ⟨g, 0, none⟩), .int .i64 now] w (RB (.tuple #[.nilIface, .bool false]) w) := by
  have HF := Lib.hid (first0_calls hq)
  unfold Sess at hs
  unfold msg0 at HF
  obtain ⟨s0, s1, s2, s3, s4, s5, s6, s7, s8⟩ := ninecell hs
  clear hs hq
  go_enter Tryz.func121, Tryz.ntmps121
  go_wp2_with (first
    | (go_at_call 169; (with_reducible refine (HF.out).mono ?_); rintro e w1 ⟨rfl, hb⟩))
  go_ret2
  exact ⟨rfl, by (with_reducible (repeat (first | exact Below.refl _ _ | assumption | apply Below.drew | apply bel_alloc | (refine Below.into ?_ (by assumption)) | (refine bel_set ?_ (by first | exact Nat.le_refl _ | assumption | omega | (simp only [World.size_alloc]; omega))))))⟩
set_option maxHeartbeats 4000000 in
theorem sfirst1_calls {w : World} {g inn win que b c : Nat} {id f n : ByteArray} {rc ex : Int} (hs : Sess w g id rc 4294967295 ex inn win que true) (hq : Que w que (.slice (some ⟨b, 0, none⟩) 1 c)) (hr : Row1 w b 278 (msgC f n)) (hc : 1 ≤ c) (hn : n.size ≤ 100) (now : Int) : Calls Tryz.prog 121 #[.pointer (some ⟨g, 0, none⟩), .int .i64 now] w fun e w' => ∃ A c', e = .returned (.tuple #[.iface 45 (pubV 0 n), .bool true]) ∧ Que w' que (.slice A 0 c') ∧ Chg (fun k => k = que) w w' := by
  have HF := Lib.hid (first1_calls hq hr)
  have HQ := Lib.hid hq
  have HR := Lib.hid hr
  have HS := Lib.hid hs
  have HNE := Lib.hid (show g ≠ que from blk_ne hs hq (by decide))
  have HL := Lib.hid (show que < w.heap.size from blk_lt hq)
  have HCC := Lib.hid hc
  have HSA := fun W gg => Lib.hid (show Calls Tryz.prog 166 #[gg, msg f n, .int .u32 65535, .bool false, .int .i64 now] W (RB (pubV 65535 n) W) from spub_calls (w := W) gg f n 65535 now)
  have HSB := fun W gg => Lib.hid (show Calls Tryz.prog 166 #[gg, msg f n, .int .u32 0, .bool false, .int .i64 now] W (RB (pubV 0 n) W) from spub_calls (w := W) gg f n 0 now)
  have HN := Lib.hid hn
  have hss := hs
  unfold Sess at hss
  obtain ⟨s0, s1, s2, s3, s4, s5, s6, s7, s8⟩ := ninecell hss
  unfold msg at HF HSA HSB
  clear hs hq hr hc hn hss
  go_enter Tryz.func121, Tryz.ntmps121
  go_upto_region 2 with (first
    | (go_at_call 169; (with_reducible refine (HF.out).mono ?_); rintro e w1 ⟨rfl, hb⟩; have HQ1 := Lib.hid (show Que w1 que (.slice (some ⟨b, 0, none⟩) 1 c) from blk_below HQ.out hb); have HR1 := Lib.hid (HR.out.below hb); have HS1 := Lib.hid (show Sess w1 g id rc 4294967295 ex inn win que true from blk_below HS.out hb); have HB1 := Lib.hid hb; clear hb))
  have HM2 := Lib.hid (show (w1.alloc (Obj.cells #[.string f, .int .i64 0, .int .u8 0, .bool false, .slice none 0 0, .string n, .string ⟨#[]⟩] 278)).heap[w1.heap.size]? = some (Obj.cells #[.string f, .int .i64 0, .int .u8 0, .bool false, .slice none 0 0, .string n, .string ⟨#[]⟩] 278) from blk_top rfl)
  have HQ2 := Lib.hid (show Que (w1.alloc (Obj.cells #[.string f, .int .i64 0, .int .u8 0, .bool false, .slice none 0 0, .string n, .string ⟨#[]⟩] 278)) que (.slice (some ⟨b, 0, none⟩) 1 c) from blk_alloc HQ1.out _)
  have HR2 := Lib.hid (show Row1 (w1.alloc (Obj.cells #[.string f, .int .i64 0, .int .u8 0, .bool false, .slice none 0 0, .string n, .string ⟨#[]⟩] 278)) b 278 (msgC f n) from HR1.out.below (bel1 _ _))
  have HS2 := Lib.hid (show Sess (w1.alloc (Obj.cells #[.string f, .int .i64 0, .int .u8 0, .bool false, .slice none 0 0, .string n, .string ⟨#[]⟩] 278)) g id rc 4294967295 ex inn win que true from blk_alloc HS1.out _)
  have HB2 := Lib.hid (show Below w.heap.size w (w1.alloc (Obj.cells #[.string f, .int .i64 0, .int .u8 0, .bool false, .slice none 0 0, .string n, .string ⟨#[]⟩] 278)) from bel_alloc HB1.out)
  have HG2 := Lib.hid (show w.heap.size ≤ w1.heap.size from HB1.out.size)
  generalize (w1.alloc (Obj.cells #[.string f, .int .i64 0, .int .u8 0, .bool false, .slice none 0 0, .string n, .string ⟨#[]⟩] 278)) = W9 at HM2 HQ2 HR2 HS2 HB2 ⊢
  generalize w1.heap.size = x at HM2 HG2 ⊢
  have HP := Lib.hid (pop1_calls HQ2.out HR2.out HCC.out)
  unfold msg at HP
  clear s0 s1 s2 s3 s4 s5 s6 s7 s8 HF HQ HR HS HQ1 HR1 HS1 HB1
  have hss := HS2.out
  unfold Sess at hss
  obtain ⟨s0, s1, s2, s3, s4, s5, s6, s7, s8⟩ := ninecell hss
  clear hss
  obtain ⟨m0, m1, m2, m3, m4, m5, m6⟩ := sevencell HM2.out
  go_upto_region 5 with (first
    | (go_at_call 171; (with_reducible refine (HP.out).mono ?_); rintro e w3 ⟨A, c3, rfl, hq, hc⟩; have HQ3 := Lib.hid hq; have HS3 := Lib.hid (show Sess w3 g id rc 4294967295 ex inn win que true from hc.blk HS2.out HNE.out); have HM3 := Lib.hid (hc.blk HM2.out (by have := HG2.out; have := HL.out; omega)); have HC3 := Lib.hid ((Chg.of_below (S := fun k => k = que) HB2.out).trans hc); clear hq hc))
  clear m0 m1 m2 m3 m4 m5 m6 s0 s1 s2 s3 s4 s5 s6 s7 s8
  obtain ⟨m0, m1, m2, m3, m4, m5, m6⟩ := sevencell HM3.out
  go_upto_region 8 with (first
    | (go_at_call 166; (with_reducible refine ((HSA _ _).out).mono ?_); rintro e w4 ⟨rfl, hb⟩; have HQ4 := Lib.hid (show Que w4 que (.slice A 0 c3) from blk_below HQ3.out hb); have HS4 := Lib.hid (show Sess w4 g id rc 4294967295 ex inn win que true from blk_below HS3.out hb); have HM4 := Lib.hid (blk_below HM3.out hb); have HC4 := Lib.hid (HC3.out.below hb); clear hb)
    | (go_at_call 167; (with_reducible refine ((fits_calls HS4.out 65535 n (by decide) HN.out)).mono ?_); rintro e w5 ⟨rfl, hb⟩; have HQ5 := Lib.hid (show Que w5 que (.slice A 0 c3) from blk_below HQ4.out hb); have HM5 := Lib.hid (blk_below HM4.out hb); have HC5 := Lib.hid (HC4.out.below hb); clear hb))
  clear m0 m1 m2 m3 m4 m5 m6
  obtain ⟨m0, m1, m2, m3, m4, m5, m6⟩ := sevencell HM5.out
  go_wp2_with (first
    | (go_at_call 166; (with_reducible refine ((HSB _ _).out).mono ?_); rintro e w6 ⟨rfl, hb⟩; have HQ6 := Lib.hid (show Que w6 que (.slice A 0 c3) from blk_below HQ5.out hb); have HC6 := Lib.hid (HC5.out.below hb); clear hb))
  go_ret2
  exact ⟨A, c3, rfl, HQ6.out, HC6.out⟩
theorem Chg.shrink {S T : Nat → Prop} {w w' : World} (h : Chg S w w') (hs : ∀ k, S k → ¬ T k → k < w.heap.size → w'.heap[k]? = w.heap[k]?) : Chg T w w' := by
  refine ⟨h.1, h.2, h.3, h.4, fun k hk hn => ?_⟩
  by_cases hS : S k
  · exact hs k hS hn hk
  · exact h.5 k hk hS
theorem chg_same {S : Nat → Prop} {w W : World} {b i : Nat} {u : Value} {o : Obj} (h : Chg S w W) (ho : w.heap[b]? = some o) (hw : (W.setCell ⟨b, i, none⟩ u).heap[b]? = some o) : Chg S w (W.setCell ⟨b, i, none⟩ u) := by
  have h1 : Chg (fun k => S k ∨ k = b) w (W.setCell ⟨b, i, none⟩ u) := (h.mono (fun _ => .inl)).trans ((chg_setc' b i u).mono (fun _ => .inr))
  refine h1.shrink (fun k hk hn hl => ?_)
  obtain rfl := hk.resolve_left hn
  rw [hw, ho]
def Exp0P (w : World) (q : Nat) (e : Ending) (w' : World) : Prop := e = .returned (.slice none 0 0) ∧ Que w' q (.slice none 0 0) ∧ Chg (fun k => k = q) w w'
theorem expire0'_calls {w : World} {q : Nat} {A : Option Addr} {c : Nat} (hq : Que w q (.slice A 0 c)) (now : Int) : Calls Tryz.prog 119 #[.pointer (some ⟨q, 0, none⟩), .int .i64 now] w (Exp0P w q) := by
  refine (expire0_calls hq now).mono ?_
  rintro e w' ⟨rfl, rfl⟩
  exact ⟨rfl, put_que hq, chg_setc' q 0 _⟩
def Pump0P (w : World) (que : Nat) (e : Ending) (w' : World) : Prop := e = .returned (.slice none 0 0) ∧ Que w' que (.slice none 0 0) ∧ Chg (fun k => k = que) w w'
set_option maxHeartbeats 4000000 in
theorem pump0_calls {w : World} {g inn win que pool c : Nat} {A : Option Addr} {id : ByteArray} {rc mo ex m0 : Int} (hs : Sess w g id rc mo ex inn win que true) (hw : Win w win pool m0) (hq : Que w que (.slice A 0 c)) (now : Int) : Calls Tryz.prog 79 #[.pointer (some ⟨g, 0, none⟩), .int .i64 now] w (Pump0P w que) := by
  have hgq : g ≠ que := blk_ne hs hq (by decide)
  have hwq : win ≠ que := blk_ne hw hq (by decide)
  have HWG := Lib.hid (show win ≠ g from blk_ne hw hs (by decide))
  have HNQ := Lib.hid (show g ≠ que ∧ win ≠ que from ⟨hgq, hwq⟩)
  have HS := Lib.hid (show Sess w.drew g id rc mo ex inn win que true from hs)
  have HSW := Lib.hid (show Sess w g id rc mo ex inn win que true from hs)
  have HW := Lib.hid (show Win w.drew win pool m0 from hw)
  have HE := Lib.hid (fun now => expire0'_calls (w := w.drew) hq now)
  unfold Exp0P at HE
  unfold Sess at hs
  obtain ⟨s0, s1, s2, s3, s4, s5, s6, s7, s8⟩ := ninecell hs
  clear hw hq hs hgq hwq
  go_enter Tryz.func79, Tryz.ntmps79
  go_upto_region 1 with (fail)
  go_region_held3 (fun w' => w'.cell? ⟨g, 8, none⟩ = some (.int .i64 0) ∧ w'.cell? ⟨g, 6, none⟩ = some (.pointer (some ⟨que, 0, none⟩))) (first | exact ⟨s8, s6⟩ | exact ⟨b8, b6⟩ | go_keep) (first
    | (go_at_call 119; (with_reducible refine (HE.out _).mono ?_); rintro e w1 ⟨rfl, hq1, hch⟩; have HQ1 := Lib.hid hq1; have HCH := Lib.hid ((Chg.of_below (S := fun k => k = que) (Below.refl w.heap.size w).drew).trans hch); have HS1 := Lib.hid (show Sess w1 g id rc mo ex inn win que true from hch.blk HS.out HNQ.out.1); have HW1 := Lib.hid (show Win w1 win pool m0 from hch.blk HW.out HNQ.out.2); clear hq1 hch; have hss := HS1.out; have fs := blk_frozen hss 8; have hsb := blk_put hss 8 (.int .i64 0) rfl; unfold Sess at hss; clear s0 s1 s2 s3 s4 s5 s6 s7 s8; obtain ⟨s0, s1, s2, s3, s4, s5, s6, s7, s8⟩ := ninecell hss; obtain ⟨b0, b1, b2, b3, b4, b5, b6, b7, b8⟩ := ninecell hsb; clear hss hsb))
  simp only [show IntKind.i64.wrap 0 = 0 from rfl]
  clear fs s0 s1 s2 s3 s4 s5 s6 s7 s8 b0 b1 b2 b3 b4 b5 b6 b7 b8 HE
  have HSB := Lib.hid (show Sess (w1.setCell ⟨g, 8, none⟩ (.int .i64 0)) g id rc mo ex inn win que true from blk_put HS1.out 8 (.int .i64 0) rfl)
  have HWB := Lib.hid (show Win (w1.setCell ⟨g, 8, none⟩ (.int .i64 0)) win pool m0 from blk_sf2 HW1.out 8 _ HWG.out)
  have HQB := Lib.hid (show Que (w1.setCell ⟨g, 8, none⟩ (.int .i64 0)) que (.slice none 0 0) from blk_sf2 HQ1.out 8 _ (fun e => HNQ.out.1 e.symm))
  have HCB := Lib.hid (show Chg (fun k => k = que) w (w1.setCell ⟨g, 8, none⟩ (.int .i64 0)) from chg_same HCH.out HSW.out HSB.out)
  generalize (w1.setCell ⟨g, 8, none⟩ (.int .i64 0)) = W2 at HSB HWB HQB HCB ⊢
  have hss := HSB.out
  unfold Sess at hss
  obtain ⟨s0, s1, s2, s3, s4, s5, s6, s7, s8⟩ := ninecell hss
  clear hss
  go_upto_region 5 with (first
    | (go_at_call 120; (with_reducible refine (sagain_calls HSB.out HWB.out now).mono ?_); rintro e w3 ⟨rfl, rfl⟩))
  refine wp_loop_rounds 1 ?_
  rw [rounds_succ]
  go_wp2_with (first
    | (go_at_call 121; (with_reducible refine (sfirst0_calls HSB.out HQB.out now).mono ?_); rintro e w4 ⟨rfl, hb⟩; have HQ4 := Lib.hid (show Que w4 que (.slice none 0 0) from blk_below HQB.out hb); have HC4 := Lib.hid (HCB.out.below hb); clear hb))
  go_ret
  exact ⟨rfl, HQ4.out, HC4.out⟩
theorem fit81 : (281474976710656 < Builtin.nextslicecap 1 0 * Tryz.t81.bytes) = False := eq_false (by decide)
def Pump1P (w : World) (que : Nat) (n : ByteArray) (e : Ending) (w' : World) : Prop := ∃ B d A c, e = .returned (.slice (some ⟨B, 0, none⟩) 1 d) ∧ w.heap.size ≤ B ∧ 1 ≤ d ∧ Row1 w' B 81 #[.iface 45 (pubV 0 n)] ∧ Que w' que (.slice A 0 c) ∧ Chg (fun k => k = que) w w'
set_option maxHeartbeats 4000000 in
theorem pump1_calls {w : World} {g inn win que pool b c : Nat} {id f n : ByteArray} {rc ex m0 : Int} (hs : Sess w g id rc 4294967295 ex inn win que true) (hw : Win w win pool m0) (hq : Que w que (.slice (some ⟨b, 0, none⟩) 1 c)) (hr : Row1 w b 278 (msgC f n)) (hn : n.size ≤ 100) (now : Int) : Calls Tryz.prog 79 #[.pointer (some ⟨g, 0, none⟩), .int .i64 now] w (Pump1P w que n) := by
  have hgq : g ≠ que := blk_ne hs hq (by decide)
  have hwq : win ≠ que := blk_ne hw hq (by decide)
  have HWG := Lib.hid (show win ≠ g from blk_ne hw hs (by decide))
  have HNQ := Lib.hid (show g ≠ que ∧ win ≠ que from ⟨hgq, hwq⟩)
  have HQL := Lib.hid (show que < w.heap.size from blk_lt hq)
  have HS := Lib.hid (show Sess w.drew g id rc 4294967295 ex inn win que true from hs)
  have HSW := Lib.hid (show Sess w g id rc 4294967295 ex inn win que true from hs)
  have HW := Lib.hid (show Win w.drew win pool m0 from hw)
  have HE := Lib.hid (fun now => expire1_calls (w := w.drew) hq (hr.below (Below.refl w.heap.size w).drew) now)
  have HN := Lib.hid hn
  have hfit := fit81
  unfold Sess at hs
  obtain ⟨s0, s1, s2, s3, s4, s5, s6, s7, s8⟩ := ninecell hs
  clear hw hq hr hn hs hgq hwq
  go_enter Tryz.func79, Tryz.ntmps79
  go_upto_region 1 with (fail)
  go_region_held3 (fun w' => w'.cell? ⟨g, 8, none⟩ = some (.int .i64 0) ∧ w'.cell? ⟨g, 6, none⟩ = some (.pointer (some ⟨que, 0, none⟩))) (first | exact ⟨s8, s6⟩ | exact ⟨b8, b6⟩ | go_keep) (first
    | (go_at_call 119; (with_reducible refine (HE.out _).mono ?_); rintro e w1 ⟨x1, y1, rfl, hc1, hb1, hr1, hq1, hch⟩; have HR1 := Lib.hid hr1; have HC1 := Lib.hid hc1; have HQ1 := Lib.hid hq1; have HCH := Lib.hid ((Chg.of_below (S := fun k => k = que) (Below.refl w.heap.size w).drew).trans hch); have HS1 := Lib.hid (show Sess w1 g id rc 4294967295 ex inn win que true from hch.blk HS.out HNQ.out.1); have HW1 := Lib.hid (show Win w1 win pool m0 from hch.blk HW.out HNQ.out.2); clear hc1 hb1 hr1 hq1 hch; have hss := HS1.out; have fs := blk_frozen hss 8; have hsb := blk_put hss 8 (.int .i64 0) rfl; unfold Sess at hss; clear s0 s1 s2 s3 s4 s5 s6 s7 s8; obtain ⟨s0, s1, s2, s3, s4, s5, s6, s7, s8⟩ := ninecell hss; obtain ⟨b0, b1, b2, b3, b4, b5, b6, b7, b8⟩ := ninecell hsb; clear hss hsb))
  simp only [show IntKind.i64.wrap 0 = 0 from rfl]
  have HSB := Lib.hid (show Sess (w1.setCell ⟨g, 8, none⟩ (.int .i64 0)) g id rc 4294967295 ex inn win que true from blk_put HS1.out 8 (.int .i64 0) rfl)
  have HWB := Lib.hid (show Win (w1.setCell ⟨g, 8, none⟩ (.int .i64 0)) win pool m0 from blk_sf2 HW1.out 8 _ HWG.out)
  have HQB := Lib.hid (show Que (w1.setCell ⟨g, 8, none⟩ (.int .i64 0)) que (.slice (some ⟨x1, 0, none⟩) 1 y1) from blk_sf2 HQ1.out 8 _ (fun e => HNQ.out.1 e.symm))
  have HCB := Lib.hid (show Chg (fun k => k = que) w (w1.setCell ⟨g, 8, none⟩ (.int .i64 0)) from chg_same HCH.out HSW.out HSB.out)
  have HRB := Lib.hid (show Row1 (w1.setCell ⟨g, 8, none⟩ (.int .i64 0)) x1 278 (msgC f n) from HR1.out.to (chg_setc' g 8 _) (fun e => by obtain ⟨X, hX⟩ := HR1.out; exact blk_ne hX HS1.out (by decide) e))
  generalize (w1.setCell ⟨g, 8, none⟩ (.int .i64 0)) = W2 at HSB HWB HQB HCB HRB ⊢
  clear fs s0 s1 s2 s3 s4 s5 s6 s7 s8 b0 b1 b2 b3 b4 b5 b6 b7 b8 HR1 HQ1 HCH HS1 HW1 HE HS HW HSW
  have hss := HSB.out
  unfold Sess at hss
  obtain ⟨s0, s1, s2, s3, s4, s5, s6, s7, s8⟩ := ninecell hss
  clear hss
  go_upto_region 5 with (first
    | (go_at_call 120; (with_reducible refine (sagain_calls HSB.out HWB.out now).mono ?_); rintro e w3 ⟨rfl, rfl⟩))
  refine wp_loop_rounds 2 ?_
  rw [rounds_succ]
  go_upto_region 9 with (first
    | (go_at_call 121; (with_reducible refine (sfirst1_calls HSB.out HQB.out HRB.out HC1.out HN.out now).mono ?_); rintro e w4 ⟨A, c4, rfl, hq, hc⟩; have HQ4 := Lib.hid hq; have HC4 := Lib.hid (HCB.out.trans hc); have HS4 := Lib.hid (show Sess w4 g id rc 4294967295 ex inn win que true from hc.blk HSB.out HNQ.out.1); clear hq hc))
  have HQ5 := Lib.hid HQ4.out
  clear s0 s1 s2 s3 s4 s5 s6 s7 s8 HSB HWB HQB HCB HRB
  go_wp2
  have HCG := Lib.hid (cut_ge 81 (w4.tape w4.drawn (Question.appendCap 1 0 81)))
  generalize (Question.appendCap 1 0 81).cut (w4.tape w4.drawn (Question.appendCap 1 0 81)) = cc at HCG ⊢
  have hap := appd w4 (Obj.cells #[Value.iface 45 (pubV 0 n)] 81) #[Value.iface 45 (pubV 0 n)] (Builtin.zeroCells #[Value.nilIface] (cc - 1)) 81
  have HR6 := Lib.hid (show Row1 (((w4.alloc (Obj.cells #[Value.iface 45 (pubV 0 n)] 81)).alloc (Obj.cells (#[Value.iface 45 (pubV 0 n)] ++ (Builtin.zeroCells #[Value.nilIface] (cc - 1))) 81)).drew) (w4.heap.size + 1) 81 #[Value.iface 45 (pubV 0 n)] from hap.1)
  have HQ6 := Lib.hid (show Que (((w4.alloc (Obj.cells #[Value.iface 45 (pubV 0 n)] 81)).alloc (Obj.cells (#[Value.iface 45 (pubV 0 n)] ++ (Builtin.zeroCells #[Value.nilIface] (cc - 1))) 81)).drew) que (.slice A 0 c4) from blk_below HQ5.out hap.2)
  have HC6 := Lib.hid (show Chg (fun k => k = que) w (((w4.alloc (Obj.cells #[Value.iface 45 (pubV 0 n)] 81)).alloc (Obj.cells (#[Value.iface 45 (pubV 0 n)] ++ (Builtin.zeroCells #[Value.nilIface] (cc - 1))) 81)).drew) from HC4.out.below hap.2)
  have HS6 := Lib.hid (show Sess (((w4.alloc (Obj.cells #[Value.iface 45 (pubV 0 n)] 81)).alloc (Obj.cells (#[Value.iface 45 (pubV 0 n)] ++ (Builtin.zeroCells #[Value.nilIface] (cc - 1))) 81)).drew) g id rc 4294967295 ex inn win que true from blk_below HS4.out hap.2)
  have HG6 := Lib.hid (show w.heap.size ≤ w4.heap.size + 1 from Nat.le_succ_of_le HC4.out.size)
  generalize (((w4.alloc (Obj.cells #[Value.iface 45 (pubV 0 n)] 81)).alloc (Obj.cells (#[Value.iface 45 (pubV 0 n)] ++ (Builtin.zeroCells #[Value.nilIface] (cc - 1))) 81)).drew) = W6 at HR6 HQ6 HC6 HS6 ⊢
  generalize w4.heap.size + 1 = B6 at HR6 HG6 ⊢
  clear hap HQ4 HQ5 HC4 HS4
  rw [rounds_succ]
  go_wp2_with (first
    | (go_at_call 121; (with_reducible refine (sfirst0_calls HS6.out HQ6.out now).mono ?_); rintro e w7 ⟨rfl, hb⟩; have HR7 := Lib.hid (HR6.out.below hb); have HQ7 := Lib.hid (show Que w7 que (.slice A 0 c4) from blk_below HQ6.out hb); have HC7 := Lib.hid (HC6.out.below hb); clear hb))
  go_ret
  exact ⟨B6, cc, A, c4, rfl, HG6.out, HCG.out, HR7.out, HQ7.out, HC7.out⟩
def OfferP (w : World) (que : Nat) (f n : ByteArray) (e : Ending) (w' : World) : Prop := ∃ b c, e = .returned (.tuple #[]) ∧ 1 ≤ c ∧ w.heap.size ≤ b ∧ Row1 w' b 278 (msgC f n) ∧ Que w' que (.slice (some ⟨b, 0, none⟩) 1 c) ∧ Chg (fun k => k = que) w w'
def OS (w : World) (g mb que : Nat) (f n : ByteArray) : Prop := w.cell? ⟨g, 6, none⟩ = some (.pointer (some ⟨que, 0, none⟩)) ∧ w.cell? ⟨mb, 0, none⟩ = some (.string f) ∧ w.cell? ⟨mb, 1, none⟩ = some (.int .i64 0) ∧ w.cell? ⟨mb, 2, none⟩ = some (.int .u8 0) ∧ w.cell? ⟨mb, 3, none⟩ = some (.bool false) ∧ w.cell? ⟨mb, 4, none⟩ = some (.slice none 0 0) ∧ w.cell? ⟨mb, 5, none⟩ = some (.string n) ∧ w.cell? ⟨mb, 6, none⟩ = some (.string ⟨#[]⟩)
theorem os_of {w : World} {g mb que : Nat} {f n : ByteArray} {id : ByteArray} {rc mo ex : Int} {inn win : Nat} {on : Bool} (hs : Sess w g id rc mo ex inn win que on) (hm : w.heap[mb]? = some (Obj.cells #[.string f, .int .i64 0, .int .u8 0, .bool false, .slice none 0 0, .string n, .string ⟨#[]⟩] 278)) : OS w g mb que f n := by
  obtain ⟨m0, m1, m2, m3, m4, m5, m6⟩ := sevencell hm
  exact ⟨(blk_cell hs 6).trans rfl, m0, m1, m2, m3, m4, m5, m6⟩
theorem cell_al {w : World} {a : Addr} {v : Value} (h : w.cell? a = some v) (o : Obj) : (w.alloc o).cell? a = some v := (World.cell?_alloc_lt _ _ _ (World.block_lt_of_cell? w a h)).trans h
theorem cell_sf {w : World} {a : Addr} {v u : Value} {b i : Nat} (h : w.cell? a = some v) (hne : b ≠ a.block) : (w.setCell ⟨b, i, none⟩ u).cell? a = some v := (World.cell?_setCell_far w ⟨b, i, none⟩ a u hne).trans h
theorem OS.alloc {w : World} {g mb que : Nat} {f n : ByteArray} (h : OS w g mb que f n) (o : Obj) : OS (w.alloc o) g mb que f n := ⟨cell_al h.1 o, cell_al h.2.1 o, cell_al h.2.2.1 o, cell_al h.2.2.2.1 o, cell_al h.2.2.2.2.1 o, cell_al h.2.2.2.2.2.1 o, cell_al h.2.2.2.2.2.2.1 o, cell_al h.2.2.2.2.2.2.2 o⟩
theorem OS.set {w : World} {g mb que b i : Nat} {f n : ByteArray} {u : Value} (h : OS w g mb que f n) (h1 : b ≠ g) (h2 : b ≠ mb) : OS (w.setCell ⟨b, i, none⟩ u) g mb que f n := ⟨cell_sf h.1 h1, cell_sf h.2.1 h2, cell_sf h.2.2.1 h2, cell_sf h.2.2.2.1 h2, cell_sf h.2.2.2.2.1 h2, cell_sf h.2.2.2.2.2.1 h2, cell_sf h.2.2.2.2.2.2.1 h2, cell_sf h.2.2.2.2.2.2.2 h2⟩
set_option maxHeartbeats 4000000 in
theorem soffer_calls {w : World} {g inn win que : Nat} {id f n : ByteArray} {rc mo ex : Int} (hs : Sess w g id rc mo ex inn win que true) (hq : Que w que (.slice none 0 0)) : Calls Tryz.prog 205 #[.pointer (some ⟨g, 0, none⟩), msg f n] w (OfferP w que f n) := by
  have HQL := Lib.hid (show que < w.heap.size from blk_lt hq)
  unfold msg
  have HM := Lib.hid (show (w.alloc (Obj.cells #[.string f, .int .i64 0, .int .u8 0, .bool false, .slice none 0 0, .string n, .string ⟨#[]⟩] 278)).heap[w.heap.size]? = some (Obj.cells #[.string f, .int .i64 0, .int .u8 0, .bool false, .slice none 0 0, .string n, .string ⟨#[]⟩] 278) from heap_alloc_new w _)
  have HQ := Lib.hid (show Que (w.alloc (Obj.cells #[.string f, .int .i64 0, .int .u8 0, .bool false, .slice none 0 0, .string n, .string ⟨#[]⟩] 278)) que (.slice none 0 0) from blk_alloc hq _)
  have HS := Lib.hid (show Sess (w.alloc (Obj.cells #[.string f, .int .i64 0, .int .u8 0, .bool false, .slice none 0 0, .string n, .string ⟨#[]⟩] 278)) g id rc mo ex inn win que true from blk_alloc hs _)
  have HB := Lib.hid (bel1 w (Obj.cells #[.string f, .int .i64 0, .int .u8 0, .bool false, .slice none 0 0, .string n, .string ⟨#[]⟩] 278))
  clear hs hq
  go_enter Tryz.func205, Tryz.ntmps205
  go_upto_region 1 with (fail)
  generalize w.alloc (Obj.cells #[.string f, .int .i64 0, .int .u8 0, .bool false, .slice none 0 0, .string n, .string ⟨#[]⟩] 278) = W0 at HM HQ HS HB ⊢
  generalize w.heap.size = mb at HM ⊢
  obtain ⟨m0, m1, m2, m3, m4, m5, m6⟩ := sevencell HM.out
  have hss := HS.out
  unfold Sess at hss
  obtain ⟨s0, s1, s2, s3, s4, s5, s6, s7, s8⟩ := ninecell hss
  clear hss
  go_upto_region 3 with (fail)
  clear m0 m1 m2 m3 m4 m5 m6 s0 s1 s2 s3 s4 s5 s6 s7 s8
  have o0 : OS W0.drew g mb que f n := os_of HS.out HM.out
  have oz : OS ((W0.alloc (Obj.cells #[.string ⟨#[]⟩, .int .i64 0, .int .u8 0, .bool false, .slice none 0 0, .string ⟨#[]⟩, .string ⟨#[]⟩] 278)).drew) g mb que f n := (os_of HS.out HM.out).alloc (Obj.cells #[.string ⟨#[]⟩, .int .i64 0, .int .u8 0, .bool false, .slice none 0 0, .string ⟨#[]⟩, .string ⟨#[]⟩] 278)
  have hzg : W0.heap.size ≠ g := by have := blk_lt HS.out; omega
  have hzm : W0.heap.size ≠ mb := by have := blk_lt HM.out; omega
  have hP : ∀ W, Below W0.heap.size W0 W → Calls Tryz.prog 174 #[.pointer (some ⟨que, 0, none⟩), msg f n] W (fun e w' => ∃ b c, e = .returned (.tuple #[msg0, .bool false]) ∧ 1 ≤ c ∧ W.heap.size ≤ b ∧ w.heap.size ≤ b ∧ Row1 w' b 278 (msgC f n) ∧ Que w' que (.slice (some ⟨b, 0, none⟩) 1 c) ∧ Chg (fun k => k = que) W w' ∧ Chg (fun k => k = que) w w' ∧ OS w' g mb que f n) := fun W hW => by
    refine (push_calls (w := W) (f := f) (n := n) (show Que W que (.slice none 0 0) from blk_below HQ.out hW)).mono ?_
    rintro e w' ⟨b, c, h1, h2, h3, h4, h5, h6⟩
    have hgq : g ≠ que := blk_ne HS.out HQ.out (by decide)
    have hmq : mb ≠ que := blk_ne HM.out HQ.out (by decide)
    refine ⟨b, c, h1, h2, h3, ?_, h4, h5, h6, (Chg.of_below (S := fun k => k = que) (Below.into HB.out hW)).trans h6, os_of (show Sess w' g id rc mo ex inn win que true from h6.blk (show Sess W g id rc mo ex inn win que true from blk_below HS.out hW) hgq) (h6.blk (blk_below HM.out hW) hmq)⟩
    have := HB.out.size
    have := hW.size
    omega
  have HPZ := Lib.hid (hP ((W0.alloc (Obj.cells #[.string ⟨#[]⟩, .int .i64 0, .int .u8 0, .bool false, .slice none 0 0, .string ⟨#[]⟩, .string ⟨#[]⟩] 278)).drew) (bel1 W0 (Obj.cells #[.string ⟨#[]⟩, .int .i64 0, .int .u8 0, .bool false, .slice none 0 0, .string ⟨#[]⟩, .string ⟨#[]⟩] 278)).drew)
  have HPD := Lib.hid (hP W0.drew (Below.refl W0.heap.size W0).drew)
  have HZ := Lib.hid (show ((W0.alloc (Obj.cells #[.string ⟨#[]⟩, .int .i64 0, .int .u8 0, .bool false, .slice none 0 0, .string ⟨#[]⟩, .string ⟨#[]⟩] 278)).drew).heap[W0.heap.size]? = some (Obj.cells #[.string ⟨#[]⟩, .int .i64 0, .int .u8 0, .bool false, .slice none 0 0, .string ⟨#[]⟩, .string ⟨#[]⟩] 278) from heap_alloc_new W0 _)
  have HZN := Lib.hid (show W0.heap.size ≠ que from by have := blk_lt HQ.out; omega)
  have HZW := Lib.hid (show w.heap.size ≤ W0.heap.size from HB.out.size)
  unfold msg msg0 at HPZ HPD
  clear hP HM HQ HS HB
  go_region_held3 (fun w' => w'.cell? ⟨g, 6, none⟩ = some (.pointer (some ⟨que, 0, none⟩)) ∧ w'.cell? ⟨mb, 0, none⟩ = some (.string f) ∧ w'.cell? ⟨mb, 1, none⟩ = some (.int .i64 0) ∧ w'.cell? ⟨mb, 2, none⟩ = some (.int .u8 0) ∧ w'.cell? ⟨mb, 3, none⟩ = some (.bool false) ∧ w'.cell? ⟨mb, 4, none⟩ = some (.slice none 0 0) ∧ w'.cell? ⟨mb, 5, none⟩ = some (.string n) ∧ w'.cell? ⟨mb, 6, none⟩ = some (.string ⟨#[]⟩)) (first | (show OS _ g mb que f n; with_reducible (repeat (first | assumption | apply OS.alloc | (refine OS.set ?_ hzg hzm))))) (first
    | (go_at_call 174; (with_reducible refine (HPZ.out).mono ?_); rintro e w3 ⟨b, c, rfl, hc, hb, hbw, hr, hq, hch, hcw, ho⟩; have HQ3 := Lib.hid hq; have HR3 := Lib.hid hr; have HCC := Lib.hid hc; have HBB := Lib.hid hb; have HBW := Lib.hid hbw; have HC3 := Lib.hid hcw; have HZ3 := Lib.hid (hch.blk HZ.out HZN.out); obtain ⟨z0, z1, z2, z3, z4, z5, z6⟩ := sevencell HZ3.out; have f0 := blk_frozen HZ3.out 0; have f1 := blk_frozen HZ3.out 1; have f2 := blk_frozen HZ3.out 2; have f3 := blk_frozen HZ3.out 3; have f4 := blk_frozen HZ3.out 4; have f5 := blk_frozen HZ3.out 5; have f6 := blk_frozen HZ3.out 6; clear hc hb hbw hr hq hch hcw)
    | (go_at_call 174; (with_reducible refine (HPD.out).mono ?_); rintro e w3 ⟨b, c, rfl, hc, hb, hbw, hr, hq, hch, hcw, ho⟩; have HQ3 := Lib.hid hq; have HR3 := Lib.hid hr; have HCC := Lib.hid hc; have HBB := Lib.hid hb; have HBW := Lib.hid hbw; have HC3 := Lib.hid hcw; clear hc hb hbw hr hq hch hcw))
  · go_wp2
    go_end0
    exact ⟨b, c, rfl, HCC.out, HBW.out, HR3.out.below (bel1 w3 _), blk_below HQ3.out (bel1 w3 _), HC3.out.below (bel1 w3 _)⟩
  · obtain ⟨WF, hWF, hF, hC⟩ := set7 HZ3.out (.string ⟨#[]⟩) (.int .i64 0) (.int .u8 0) (.bool false) (.slice none 0 0) (.string ⟨#[]⟩) (.string ⟨#[]⟩)
    have HC := Lib.hid hC
    rw [← hWF]
    clear hF hC hWF z0 z1 z2 z3 z4 z5 z6 f0 f1 f2 f3 f4 f5 f6
    go_wp2
    go_end0
    exact ⟨b, c, rfl, HCC.out, HBW.out, HR3.out.to HC.out (fun e => by
      have h1 : (W0.alloc (Obj.cells #[.string ⟨#[]⟩, .int .i64 0, .int .u8 0, .bool false, .slice none 0 0, .string ⟨#[]⟩, .string ⟨#[]⟩] 278)).heap.size ≤ b := HBB.out
      rw [World.size_alloc] at h1
      have h2 : b = W0.heap.size := e
      omega), HC.out.blk HQ3.out (fun e => HZN.out e.symm), HC3.out.then_ HC.out (fun k hk => .inr (by have h1 : k = W0.heap.size := hk; have := HZW.out; omega))⟩
end Go.Proofs.YtbfgpkogginmjaaGreatDoor
end

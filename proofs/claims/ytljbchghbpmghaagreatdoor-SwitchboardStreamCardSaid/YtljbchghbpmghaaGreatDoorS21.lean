/- subscribe.head, a suback's text and frame. -/
import Derived.Test.YtljbchghbpmghaaGreatDoorS20
namespace Go.Proofs.YtljbchghbpmghaaGreatDoor
open Go.RowKit Go.Lib Go.Proofs.YtljbchghbpmghaaGreatDoorW.PrintWords Go.Proofs.YtljbchghbpmghaaGreatDoor.PSwitchboardGreat
set_option linter.unusedVariables false
set_option linter.unusedSimpArgs false
def HeadP (w : World) (id : Nat) (L : List PR) (e : Ending) (w' : World) : Prop := ∃ b, e = .returned (.pointer (some ⟨b, 0, none⟩)) ∧ w.heap.size ≤ b ∧ OW w' b (fun k => w.heap.size ≤ k) (([] ++ be2 (id % 65536)) ++ putB L) ∧ Below w.heap.size w w'
set_option maxHeartbeats 4000000 in
set_option maxRecDepth 1000000 in
theorem head_calls {w : World} {id c : Nat} {A : Option Addr} {L : List PR} (hid : id ≤ 4294967295) (hlk : LOk L) (hc : L.length ≤ c) (hL : PL w A L) : Calls Tryz.prog 123 #[.int .u32 (id : Nat), .slice A L.length c] w (HeadP w id L) := by
  have HLK := Lib.hid hlk
  have HPL := Lib.hid hL
  have HC := Lib.hid hc
  have HID := Lib.hid hid
  have HO0 := Lib.hid (OW.new w (fun k => w.heap.size ≤ k))
  have HB0 := Lib.hid (show Below w.heap.size w (w.alloc (.cells #[.slice none 0 0] 52)) from (Below.refl _ _).alloc (Nat.le_refl _) _)
  have HL0 := Lib.hid (show ([] : List UInt8).length ≤ 0 from Nat.le_refl _)
  have HLB := Lib.hid (Nat.le_refl w.heap.size)
  clear hlk hL hc hid
  go_enter Tryz.func123, Tryz.ntmps123
  go_upto_region 2 with (fail)
  generalize (w.alloc (.cells #[.slice none 0 0] 52)) = W0 at HB0 HO0 ⊢
  go_wp2_with (first
    | (go_at_call 107; (with_reducible refine (two_calls HO0.out (fun k hk => Nat.le_trans HB0.out.size hk) (Nat.le_trans HL0.out (by decide)) id HID.out).mono ?_); rintro e w1 ⟨rfl, ho, hc1⟩; have HO1 := Lib.hid ho; have HB1 := Lib.hid (HB0.out.trans (hc1.to_below HB0.out.size HLB.out (fun _ h => h))); have HL1 := Lib.hid (show ([] ++ be2 (id % 65536)).length ≤ 2 from Nat.le_refl _); clear ho hc1)
    | (go_at_call 108; (with_reducible refine (Put_calls HO1.out HB1.out.size (Nat.le_trans HL1.out (by decide)) A c L HC.out (HPL.out.to HB1.out) HLK.out.ok HLK.out.sz HLK.out.len).mono ?_); rintro e w3 ⟨rfl, ho, hc1⟩; have HO3 := Lib.hid ho; have HB3 := Lib.hid (HB1.out.trans (hc1.to_below HB1.out.size HLB.out (fun _ h => h))); clear ho hc1))
  go_ret
  exact ⟨w.heap.size, rfl, HLB.out, HO3.out, HB3.out⟩
set_option maxHeartbeats 4000000 in
set_option maxRecDepth 1000000 in
theorem subacktext_calls {w : World} {k id c : Nat} {A : Option Addr} {L : List PR} {s : ByteArray} (hid : id ≤ 4294967295) (hlk : LOk L) (hc : L.length ≤ c) (hL : PL w A L) (hs : s.size ≤ 100000) : Calls Tryz.prog 127 #[.agg #[.int .i64 (k : Nat), .int .u32 (id : Nat), .slice A L.length c, .string s]] w fun e w' => e = .returned (.string (toB ((([] ++ be2 (id % 65536)) ++ putB L) ++ s.data.toList))) ∧ Below w.heap.size w w' := by
  have HHD := Lib.hid (fun W (hb : Below w.heap.size w W) => head_calls (w := W) hid hlk hc (hL.to hb))
  have HS := Lib.hid (show s.size ≤ 1000000 by omega)
  have HPUT := Lib.hid (show ((([] : List UInt8) ++ be2 (id % 65536)) ++ putB L).length ≤ 1000000 by
    have := putB_len L hlk.sz
    rw [List.length_append]
    show 2 + _ ≤ 1000000
    omega)
  have HX := Lib.hid (heap_alloc_new w (.cells #[.int .i64 (k : Nat), .int .u32 (id : Nat), .slice A L.length c, .string s] 136))
  have HB := Lib.hid (show Below w.heap.size w (w.alloc (.cells #[.int .i64 (k : Nat), .int .u32 (id : Nat), .slice A L.length c, .string s] 136)) from (Below.refl _ _).alloc (Nat.le_refl _) _)
  clear hid hlk hc hL hs
  go_enter Tryz.func127, Tryz.ntmps127
  go_upto_region 1 with (fail)
  generalize (w.alloc (.cells #[.int .i64 (k : Nat), .int .u32 (id : Nat), .slice A L.length c, .string s] 136)) = W0 at HX HB ⊢
  obtain ⟨p0_0, p0_1, p0_2, p0_3⟩ := qcell HX.out
  have HXd := Lib.hid (blk_drew HX.out)
  have HBd := Lib.hid (below_dr HB.out)
  clear HX HB
  have HLT := Lib.hid (blk_lt HXd.out)
  go_region_held3 (fun w' => w'.cell? ⟨w.heap.size, 1, none⟩ = some (.int .u32 (id : Nat)) ∧ w'.cell? ⟨w.heap.size, 2, none⟩ = some (.slice A L.length c) ∧ w'.cell? ⟨w.heap.size, 3, none⟩ = some (.string s)) (first | exact ⟨p0_1, p0_2, p0_3⟩ | exact ⟨p1_1, p1_2, p1_3⟩ | exact ⟨p2_1, p2_2, p2_3⟩ | exact ⟨p3_1, p3_2, p3_3⟩ | go_keep) (first
    | (go_at_call 123; (with_reducible refine (HHD.out _ HBd.out).mono ?_); rintro e w1 ⟨b, rfl, hbb, ho, hb⟩; have HO1 := Lib.hid ho; have HX1 := Lib.hid (blk_below HXd.out hb); have HB1 := Lib.hid (HBd.out.trans (hb.mono HBd.out.size)); have HBS := Lib.hid hb.size; have HNB := Lib.hid (show w.heap.size ≠ b by have := HLT.out; omega); have HBB := Lib.hid (show w.heap.size ≤ b by have := HLT.out; omega); obtain ⟨p1_0, p1_1, p1_2, p1_3⟩ := qcell HX1.out; clear hb ho hbb)
    | (go_at_call 31; (with_reducible refine (raw_calls HO1.out HBS.out HPUT.out s HS.out).mono ?_); rintro e w2 ⟨rfl, ho, hc1⟩; have HO2 := Lib.hid ho; have HX2 := Lib.hid (Ch5.blk hc1 HX1.out HNB.out (by decide)); have HB2 := Lib.hid (HB1.out.trans (hc1.to_below HB1.out.size HBB.out (fun k h => by have := HBd.out.size; omega))); obtain ⟨p2_0, p2_1, p2_2, p2_3⟩ := qcell HX2.out; clear ho hc1)
    | (go_at_call 16; (with_reducible refine (text_calls HO2.out).mono ?_); rintro e w3 ⟨rfl, hb⟩; have HX3 := Lib.hid (blk_below HX2.out hb); have HB3 := Lib.hid (HB2.out.trans (hb.mono HB2.out.size)); obtain ⟨p3_0, p3_1, p3_2, p3_3⟩ := qcell HX3.out; clear hb))
  go_wp2
  go_ret
  exact ⟨rfl, HB3.out⟩
set_option maxHeartbeats 4000000 in
set_option maxRecDepth 1000000 in
theorem subackframe_calls {w : World} {k id c : Nat} {A : Option Addr} {L : List PR} {s : ByteArray} {B : ByteArray} (HT : Hid (∀ W, Below w.heap.size w W → Calls Tryz.prog 127 #[.agg #[.int .i64 (k : Nat), .int .u32 (id : Nat), .slice A L.length c, .string s]] W fun e w' => e = .returned (.string B) ∧ Below W.heap.size W w')) : Calls Tryz.prog 128 #[.agg #[.int .i64 (k : Nat), .int .u32 (id : Nat), .slice A L.length c, .string s]] w (FrPost w k 0 B) := by
  have HX := Lib.hid (show ((w.alloc (.cells #[.int .i64 (k : Nat), .int .u32 (id : Nat), .slice A L.length c, .string s] 140)).alloc (.cells #[.int .i64 0, .int .i64 0, .string ⟨#[]⟩] 36)).heap[w.heap.size]? = some (.cells #[.int .i64 (k : Nat), .int .u32 (id : Nat), .slice A L.length c, .string s] 140 (0, 0)) from blk_alloc (heap_alloc_new w _) _)
  have HB := Lib.hid (show Below w.heap.size w ((w.alloc (.cells #[.int .i64 (k : Nat), .int .u32 (id : Nat), .slice A L.length c, .string s] 140)).alloc (.cells #[.int .i64 0, .int .i64 0, .string ⟨#[]⟩] 36)) from ((Below.refl _ _).alloc (Nat.le_refl _) _).alloc (by rw [World.size_alloc]; omega) _)
  have HR := Lib.hid (show ((w.alloc (.cells #[.int .i64 (k : Nat), .int .u32 (id : Nat), .slice A L.length c, .string s] 140)).alloc (.cells #[.int .i64 0, .int .i64 0, .string ⟨#[]⟩] 36)).heap[w.heap.size + 1]? = some (.cells #[.int .i64 0, .int .i64 0, .string ⟨#[]⟩] 36 (0, 0)) by
    have := heap_alloc_new (w.alloc (.cells #[.int .i64 (k : Nat), .int .u32 (id : Nat), .slice A L.length c, .string s] 140)) (.cells #[.int .i64 0, .int .i64 0, .string ⟨#[]⟩] 36)
    rw [World.size_alloc] at this
    exact this)
  go_enter Tryz.func128, Tryz.ntmps128
  go_upto_region 1 with (fail)
  generalize ((w.alloc (.cells #[.int .i64 (k : Nat), .int .u32 (id : Nat), .slice A L.length c, .string s] 140)).alloc (.cells #[.int .i64 0, .int .i64 0, .string ⟨#[]⟩] 36)) = W0 at HX HB HR ⊢
  obtain ⟨p0_0, p0_1, p0_2, p0_3⟩ := qcell HX.out
  have HXd := Lib.hid (blk_drew HX.out)
  have HRd := Lib.hid (blk_drew HR.out)
  have HBd := Lib.hid (below_dr HB.out)
  clear HX HR HB
  go_region_held3 (fun w' => w'.cell? ⟨w.heap.size, 0, none⟩ = some (.int .i64 (k : Nat)) ∧ w'.cell? ⟨w.heap.size, 1, none⟩ = some (.int .u32 (id : Nat)) ∧ w'.cell? ⟨w.heap.size, 2, none⟩ = some (.slice A L.length c) ∧ w'.cell? ⟨w.heap.size, 3, none⟩ = some (.string s)) (first | exact ⟨p0_0, p0_1, p0_2, p0_3⟩ | exact ⟨p1_0, p1_1, p1_2, p1_3⟩ | exact ⟨p2_0, p2_1, p2_2, p2_3⟩ | go_keep) (first
    | (go_at_call 127; (with_reducible refine (HT.out _ HBd.out).mono ?_); rintro e w1 ⟨rfl, hb⟩; have HX1 := Lib.hid (blk_below HXd.out hb); have HR1 := Lib.hid (blk_below HRd.out hb); have HB1 := Lib.hid (HBd.out.trans (hb.mono HBd.out.size)); obtain ⟨p1_0, p1_1, p1_2, p1_3⟩ := qcell HX1.out; obtain ⟨r0, r1, r2⟩ := frcell HR1.out; have f0 := blk_frozen HR1.out 0; have f1 := blk_frozen HR1.out 1; have f2 := blk_frozen HR1.out 2; clear hb))
  go_wp2
  refine bodyPost_ret (v := fr k 0 B) (by unfold fr; simp [results, Tryz.results128, go_sem, r0, r1, r2]) rfl ⟨rfl, ?_⟩
  exact ((HB1.out.setCell (by simp; done) _).setCell (by simp; done) _).setCell (by simp; done) _
end Go.Proofs.YtljbchghbpmghaaGreatDoor

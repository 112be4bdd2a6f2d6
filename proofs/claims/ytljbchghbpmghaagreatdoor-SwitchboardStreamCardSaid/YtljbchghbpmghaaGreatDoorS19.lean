/- the frames of an ack and a ping. -/
import Derived.Test.YtljbchghbpmghaaGreatDoorS18
namespace Go.Proofs.YtljbchghbpmghaaGreatDoor
open Go.RowKit Go.Lib Go.Proofs.YtljbchghbpmghaaGreatDoorW.PrintWords Go.Proofs.YtljbchghbpmghaaGreatDoor.PSwitchboardGreat
set_option linter.unusedVariables false
set_option linter.unusedSimpArgs false
set_option maxHeartbeats 4000000 in
set_option maxRecDepth 1000000 in
theorem pingframe_calls {w : World} {k : Nat} : Calls Tryz.prog 119 #[.agg #[.int .i64 (k : Nat)]] w (FrPost w k 0 ⟨#[]⟩) := by
  have HB := Lib.hid (show Below w.heap.size w ((w.alloc (.cells #[.int .i64 (k : Nat)] 105)).alloc (.cells #[.int .i64 0, .int .i64 0, .string ⟨#[]⟩] 36)) from ((Below.refl _ _).alloc (Nat.le_refl _) _).alloc (by rw [World.size_alloc]; omega) _)
  have HR := Lib.hid (show ((w.alloc (.cells #[.int .i64 (k : Nat)] 105)).alloc (.cells #[.int .i64 0, .int .i64 0, .string ⟨#[]⟩] 36)).heap[w.heap.size + 1]? = some (.cells #[.int .i64 0, .int .i64 0, .string ⟨#[]⟩] 36 (0, 0)) by
    have := heap_alloc_new (w.alloc (.cells #[.int .i64 (k : Nat)] 105)) (.cells #[.int .i64 0, .int .i64 0, .string ⟨#[]⟩] 36)
    rw [World.size_alloc] at this
    exact this)
  have HX := Lib.hid (show ((w.alloc (.cells #[.int .i64 (k : Nat)] 105)).alloc (.cells #[.int .i64 0, .int .i64 0, .string ⟨#[]⟩] 36)).heap[w.heap.size]? = some (.cells #[.int .i64 (k : Nat)] 105 (0, 0)) from blk_alloc (heap_alloc_new w _) _)
  go_enter Tryz.func119, Tryz.ntmps119
  go_upto_region 1 with (fail)
  generalize ((w.alloc (.cells #[.int .i64 (k : Nat)] 105)).alloc (.cells #[.int .i64 0, .int .i64 0, .string ⟨#[]⟩] 36)) = W0 at HX HB HR ⊢
  have x0 : W0.cell? ⟨w.heap.size, 0, none⟩ = some (.int .i64 (k : Nat)) := (blk_cell HX.out 0).trans rfl
  obtain ⟨r0, r1, r2⟩ := frcell HR.out
  have f0 := blk_frozen HR.out 0
  have f1 := blk_frozen HR.out 1
  have f2 := blk_frozen HR.out 2
  go_wp2
  refine bodyPost_ret (v := fr k 0 ⟨#[]⟩) (by unfold fr; simp [results, Tryz.results119, go_sem, r0, r1, r2]) rfl ⟨rfl, ?_⟩
  exact ((HB.out.setCell (by simp; done) _).setCell (by simp; done) _).setCell (by simp; done) _
set_option maxHeartbeats 4000000 in
set_option maxRecDepth 1000000 in
theorem ackframe_calls {w : World} {k id cd c : Nat} {A : Option Addr} {L : List PR} {B : ByteArray} (HT : Hid (∀ W, Below w.heap.size w W → Calls Tryz.prog 117 #[.agg #[.int .i64 (k : Nat), .int .u32 (id : Nat), .int .u8 (cd : Nat), .slice A L.length c]] W fun e w' => e = .returned (.string B) ∧ Below W.heap.size W w')) : Calls Tryz.prog 118 #[.agg #[.int .i64 (k : Nat), .int .u32 (id : Nat), .int .u8 (cd : Nat), .slice A L.length c]] w (FrPost w k (if k = 6 then 2 else 0) B) := by
  have HX := Lib.hid (show ((w.alloc (.cells #[.int .i64 (k : Nat), .int .u32 (id : Nat), .int .u8 (cd : Nat), .slice A L.length c] 103)).alloc (.cells #[.int .i64 0, .int .i64 0, .string ⟨#[]⟩] 36)).heap[w.heap.size]? = some (.cells #[.int .i64 (k : Nat), .int .u32 (id : Nat), .int .u8 (cd : Nat), .slice A L.length c] 103 (0, 0)) from blk_alloc (heap_alloc_new w _) _)
  have HB := Lib.hid (show Below w.heap.size w ((w.alloc (.cells #[.int .i64 (k : Nat), .int .u32 (id : Nat), .int .u8 (cd : Nat), .slice A L.length c] 103)).alloc (.cells #[.int .i64 0, .int .i64 0, .string ⟨#[]⟩] 36)) from ((Below.refl _ _).alloc (Nat.le_refl _) _).alloc (by rw [World.size_alloc]; omega) _)
  have HR := Lib.hid (show ((w.alloc (.cells #[.int .i64 (k : Nat), .int .u32 (id : Nat), .int .u8 (cd : Nat), .slice A L.length c] 103)).alloc (.cells #[.int .i64 0, .int .i64 0, .string ⟨#[]⟩] 36)).heap[w.heap.size + 1]? = some (.cells #[.int .i64 0, .int .i64 0, .string ⟨#[]⟩] 36 (0, 0)) by
    have := heap_alloc_new (w.alloc (.cells #[.int .i64 (k : Nat), .int .u32 (id : Nat), .int .u8 (cd : Nat), .slice A L.length c] 103)) (.cells #[.int .i64 0, .int .i64 0, .string ⟨#[]⟩] 36)
    rw [World.size_alloc] at this
    exact this)
  go_enter Tryz.func118, Tryz.ntmps118
  go_upto_region 1 with (fail)
  generalize ((w.alloc (.cells #[.int .i64 (k : Nat), .int .u32 (id : Nat), .int .u8 (cd : Nat), .slice A L.length c] 103)).alloc (.cells #[.int .i64 0, .int .i64 0, .string ⟨#[]⟩] 36)) = W0 at HX HB HR ⊢
  obtain ⟨p0_0, p0_1, p0_2, p0_3⟩ := qcell HX.out
  have HXd := Lib.hid (blk_drew HX.out)
  have HRd := Lib.hid (blk_drew HR.out)
  have HBd := Lib.hid (below_dr HB.out)
  have hba := (Below.refl W0.heap.size W0).alloc (Nat.le_refl _) (.cells #[.int .i64 0, .int .i64 0, .string ⟨#[]⟩] 36)
  have HXa := Lib.hid (blk_drew (blk_below HX.out hba))
  have HRa := Lib.hid (blk_drew (blk_below HR.out hba))
  have HNa := Lib.hid (show (W0.alloc (.cells #[.int .i64 0, .int .i64 0, .string ⟨#[]⟩] 36)).drew.heap[W0.heap.size]? = some (.cells #[.int .i64 0, .int .i64 0, .string ⟨#[]⟩] 36 (0, 0)) from blk_drew (heap_alloc_new W0 _))
  have HBa := Lib.hid (below_dr (HB.out.trans (hba.mono HB.out.size)))
  have HNR := Lib.hid (show w.heap.size + 1 < W0.heap.size from blk_lt HR.out)
  clear HX HR HB hba
  go_region_held3 (fun w' => w'.cell? ⟨w.heap.size, 0, none⟩ = some (.int .i64 (k : Nat)) ∧ w'.cell? ⟨w.heap.size, 1, none⟩ = some (.int .u32 (id : Nat)) ∧ w'.cell? ⟨w.heap.size, 2, none⟩ = some (.int .u8 (cd : Nat)) ∧ w'.cell? ⟨w.heap.size, 3, none⟩ = some (.slice A L.length c)) (first | exact ⟨p0_0, p0_1, p0_2, p0_3⟩ | exact ⟨p1_0, p1_1, p1_2, p1_3⟩ | exact ⟨p2_0, p2_1, p2_2, p2_3⟩ | exact ⟨p3_0, p3_1, p3_2, p3_3⟩ | go_keep) (first
    | (go_at_call 117; (with_reducible refine (HT.out _ HBd.out).mono ?_); rintro e w1 ⟨rfl, hb⟩; have HX1 := Lib.hid (blk_below HXd.out hb); have HR1 := Lib.hid (blk_below HRd.out hb); have HB1 := Lib.hid (HBd.out.trans (hb.mono HBd.out.size)); have hba := (Below.refl w1.heap.size w1).alloc (Nat.le_refl _) (.cells #[.int .i64 (k : Nat), .int .i64 0, .string B] 36); obtain ⟨p1_0, p1_1, p1_2, p1_3⟩ := qcell HX1.out; obtain ⟨p2_0, p2_1, p2_2, p2_3⟩ := qcell (blk_below HX1.out hba); obtain ⟨W2, hW2⟩ : ∃ W, w1.alloc (.cells #[.int .i64 (k : Nat), .int .i64 0, .string B] 36) = W := ⟨_, rfl⟩; obtain ⟨NN, hNN⟩ : ∃ N, w1.heap.size = N := ⟨_, rfl⟩; have HN2 := Lib.hid (show W2.heap[NN]? = some (.cells #[.int .i64 (k : Nat), .int .i64 0, .string B] 36 (0, 0)) from hW2 ▸ hNN ▸ heap_alloc_new w1 _); have HX2 := Lib.hid (show W2.heap[w.heap.size]? = some (.cells #[.int .i64 (k : Nat), .int .u32 (id : Nat), .int .u8 (cd : Nat), .slice A L.length c] 103 (0, 0)) from hW2 ▸ blk_below HX1.out hba); have HR2 := Lib.hid (show W2.heap[w.heap.size + 1]? = some (.cells #[.int .i64 0, .int .i64 0, .string ⟨#[]⟩] 36 (0, 0)) from hW2 ▸ blk_below HR1.out hba); have HB2 := Lib.hid (show Below w.heap.size w W2 from hW2 ▸ HB1.out.trans (hba.mono HB1.out.size)); have HLT := Lib.hid (show w.heap.size + 1 < NN from hNN ▸ blk_lt HR1.out); have HW2 := Lib.hid hW2; have HNN := Lib.hid hNN; clear hW2 hNN hb hba)
    | (go_at_call 117; (with_reducible refine (HT.out _ HBa.out).mono ?_); rintro e w1 ⟨rfl, hb⟩; have HXC := Lib.hid (blk_below HXa.out hb); have HRC := Lib.hid (blk_below HRa.out hb); have HNC := Lib.hid (blk_below HNa.out hb); have HBC := Lib.hid (HBa.out.trans (hb.mono HBa.out.size)); obtain ⟨p1_0, p1_1, p1_2, p1_3⟩ := qcell HXC.out; obtain ⟨q0, q1, q2⟩ := frcell HNC.out; have f0 := blk_frozen HNC.out 0; have f1 := blk_frozen HNC.out 1; have f2 := blk_frozen HNC.out 2; clear hb; obtain ⟨p3_0, p3_1, p3_2, p3_3⟩ := qcell (blk_sfar (blk_sfar (blk_sfar HXC.out 0 (.int .i64 (k : Nat)) (show w.heap.size ≠ W0.heap.size by have := HNR.out; omega)) 1 (.int .i64 0) (show w.heap.size ≠ W0.heap.size by have := HNR.out; omega)) 2 (.string B) (show w.heap.size ≠ W0.heap.size by have := HNR.out; omega)); obtain ⟨W2, hW2⟩ : ∃ W, (((w1.setCell ⟨W0.heap.size, 0, none⟩ (.int .i64 (k : Nat))).setCell ⟨W0.heap.size, 1, none⟩ (.int .i64 0)).setCell ⟨W0.heap.size, 2, none⟩ (.string B)) = W := ⟨_, rfl⟩; obtain ⟨NN, hNN⟩ : ∃ N, W0.heap.size = N := ⟨_, rfl⟩; have HN2 := Lib.hid (show W2.heap[NN]? = some (.cells #[.int .i64 (k : Nat), .int .i64 0, .string B] 36 (0, 0)) from hW2 ▸ hNN ▸ (blk_put (blk_put (blk_put HNC.out 0 (.int .i64 (k : Nat)) rfl) 1 (.int .i64 0) rfl) 2 (.string B) rfl)); have HX2 := Lib.hid (show W2.heap[w.heap.size]? = some (.cells #[.int .i64 (k : Nat), .int .u32 (id : Nat), .int .u8 (cd : Nat), .slice A L.length c] 103 (0, 0)) from hW2 ▸ (blk_sfar (blk_sfar (blk_sfar HXC.out 0 (.int .i64 (k : Nat)) (show w.heap.size ≠ W0.heap.size by have := HNR.out; omega)) 1 (.int .i64 0) (show w.heap.size ≠ W0.heap.size by have := HNR.out; omega)) 2 (.string B) (show w.heap.size ≠ W0.heap.size by have := HNR.out; omega))); have HR2 := Lib.hid (show W2.heap[w.heap.size + 1]? = some (.cells #[.int .i64 0, .int .i64 0, .string ⟨#[]⟩] 36 (0, 0)) from hW2 ▸ (blk_sfar (blk_sfar (blk_sfar HRC.out 0 (.int .i64 (k : Nat)) (show w.heap.size + 1 ≠ W0.heap.size by have := HNR.out; omega)) 1 (.int .i64 0) (show w.heap.size + 1 ≠ W0.heap.size by have := HNR.out; omega)) 2 (.string B) (show w.heap.size + 1 ≠ W0.heap.size by have := HNR.out; omega))); have HB2 := Lib.hid (show Below w.heap.size w W2 from hW2 ▸ (bset (bset (bset HBC.out W0.heap.size 0 (.int .i64 (k : Nat)) (show w.heap.size ≤ W0.heap.size by have := HNR.out; omega)) W0.heap.size 1 (.int .i64 0) (show w.heap.size ≤ W0.heap.size by have := HNR.out; omega)) W0.heap.size 2 (.string B) (show w.heap.size ≤ W0.heap.size by have := HNR.out; omega))); have HLT := Lib.hid (show w.heap.size + 1 < NN by have := HNR.out; omega); have HW2 := Lib.hid hW2; have HNN := Lib.hid hNN; clear hW2 hNN))
  all_goals
    rw [HW2.out, HNN.out]
    clear HXd HRd HBd HXa HRa HNa HBa HNR p0_0 p0_1 p0_2 p0_3 p1_0 p1_1 p1_2 p1_3
    obtain ⟨s0, s1, s2, s3⟩ := qcell HX2.out
    by_cases hk6 : k = 6
    · have hkk : ((k : Int) == 6) = true := by simp [hk6]
      have HK6 := Lib.hid hk6
      clear hk6
      have f1 := blk_frozen HN2.out 1
      obtain ⟨q0, q1, q2⟩ := frcell HN2.out
      go_upto_region 4 with (fail)
      have HN3 := Lib.hid (blk_put HN2.out 1 (.int .i64 2) rfl)
      have HR3 := Lib.hid (blk_sfar HR2.out 1 (.int .i64 2) (show w.heap.size + 1 ≠ NN by have := HLT.out; omega))
      have HB3 := Lib.hid (bset HB2.out NN 1 (.int .i64 2) (show w.heap.size ≤ NN by have := HLT.out; omega))
      generalize (W2.setCell ⟨NN, 1, none⟩ (.int .i64 2)) = W3 at HN3 HR3 HB3 ⊢
      obtain ⟨n0, n1, n2⟩ := frcell HN3.out
      obtain ⟨r0, r1, r2⟩ := frcell HR3.out
      have g0 := blk_frozen HR3.out 0
      have g1 := blk_frozen HR3.out 1
      have g2 := blk_frozen HR3.out 2
      go_wp2
      refine bodyPost_ret (v := fr 6 2 B) (by unfold fr; simp [results, Tryz.results118, go_sem, r0, r1, r2]) rfl ⟨rfl, ?_⟩
      exact ((HB3.out.setCell (by simp; done) _).setCell (by simp; done) _).setCell (by simp; done) _
    · have hkk : ((k : Int) == 6) = false := beq_eq_false_iff_ne.2 (by omega)
      have HK6 := Lib.hid hk6
      clear hk6
      have f1 := blk_frozen HN2.out 1
      obtain ⟨q0, q1, q2⟩ := frcell HN2.out
      obtain ⟨r0, r1, r2⟩ := frcell HR2.out
      have g0 := blk_frozen HR2.out 0
      have g1 := blk_frozen HR2.out 1
      have g2 := blk_frozen HR2.out 2
      go_wp2
      refine bodyPost_ret (v := fr k 0 B) (by unfold fr; simp [results, Tryz.results118, go_sem, r0, r1, r2]) rfl ⟨rfl, ?_⟩
      exact ((HB2.out.setCell (by simp; done) _).setCell (by simp; done) _).setCell (by simp; done) _
end Go.Proofs.YtljbchghbpmghaaGreatDoor

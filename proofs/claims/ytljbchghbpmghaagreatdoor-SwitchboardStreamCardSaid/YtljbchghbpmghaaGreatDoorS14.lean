/- What a connack writes. -/
import Derived.Test.YtljbchghbpmghaaGreatDoorS13
namespace Go.Proofs.YtljbchghbpmghaaGreatDoor
open Go.RowKit Go.Lib Go.Proofs.YtljbchghbpmghaaGreatDoorW.PrintWords Go.Proofs.YtljbchghbpmghaaGreatDoor.PSwitchboardGreat
set_option linter.unusedVariables false
set_option linter.unusedSimpArgs false
set_option maxHeartbeats 1000000 in
set_option maxRecDepth 1000000 in
theorem bit_calls (b : Bool) (m : Nat) (w : World) : Calls Tryz.prog 114 #[.bool b, .int .u8 (m : Nat)] w fun e w' => e = .returned (.int .u8 ((if b then m else 0 : Nat) : Nat)) ∧ w' = w := by
  cases b
  all_goals
    go_enter Tryz.func114, Tryz.ntmps114
    go_wp2
    go_ret
    exact ⟨rfl, rfl⟩
set_option maxHeartbeats 4000000 in
set_option maxRecDepth 1000000 in
theorem cktext_calls {w : World} (d : CD) (A : Option Addr) (c : Nat) (hd : d.Ok) (hc : d.L.length ≤ c) (hL : PL w A d.L) : Calls Tryz.prog 115 #[d.v A c] w fun e w' => e = .returned (.string (toB d.body)) ∧ Below w.heap.size w w' := by
  obtain ⟨p, cd, L⟩ := d
  obtain ⟨hcd, hok, hsz, hll⟩ := hd
  unfold CD.v
  simp only at hcd hok hsz hll hc hL ⊢
  have HBIT := Lib.hid (fun W => bit_calls p 1 W)
  rw [show ((1 : Nat) : Int) = 1 from rfl] at HBIT
  have hy1 : (if p then 1 else 0 : Nat) < 256 := by cases p <;> decide
  have HBODY := Lib.hid (show CD.body ⟨p, cd, L⟩ = UInt8.ofNat (if p then 1 else 0) :: UInt8.ofNat cd :: putB L from rfl)
  generalize (if p then 1 else 0 : Nat) = y at HBIT hy1 HBODY
  have HY := Lib.hid hy1
  generalize CD.body ⟨p, cd, L⟩ = BODY at HBODY ⊢
  have HOK := Lib.hid hok
  have HSZ := Lib.hid hsz
  have HPL := Lib.hid hL
  have HCD := Lib.hid hcd
  have HX := Lib.hid (show ((w.alloc (.cells #[.bool p, .int .u8 (cd : Nat), .slice A L.length c] 91)).alloc (.cells #[.slice none 0 0] 52)).heap[w.heap.size]? = some (.cells #[.bool p, .int .u8 (cd : Nat), .slice A L.length c] 91 (0, 0)) from blk_alloc (heap_alloc_new w _) _)
  have HN := Lib.hid (show OW ((w.alloc (.cells #[.bool p, .int .u8 (cd : Nat), .slice A L.length c] 91)).alloc (.cells #[.slice none 0 0] 52)) (w.heap.size + 1) (fun k => w.heap.size ≤ k) [] by
    have := OW.new (w.alloc (.cells #[.bool p, .int .u8 (cd : Nat), .slice A L.length c] 91)) (fun k => w.heap.size ≤ k)
    rw [World.size_alloc] at this
    exact this)
  have HB := Lib.hid (show Below w.heap.size w ((w.alloc (.cells #[.bool p, .int .u8 (cd : Nat), .slice A L.length c] 91)).alloc (.cells #[.slice none 0 0] 52)) from ((Below.refl _ _).alloc (Nat.le_refl _) _).alloc (by rw [World.size_alloc]; omega) _)
  have HL0 := Lib.hid (show ([] : List UInt8).length ≤ 1000000 by show 0 ≤ 1000000; omega)
  have HL1 := Lib.hid (show (([] : List UInt8) ++ [UInt8.ofNat y]).length ≤ 1000000 by show 1 ≤ 1000000; omega)
  clear hok hsz hL hcd hy1
  go_enter Tryz.func115, Tryz.ntmps115
  go_upto_region 2 with (fail)
  generalize ((w.alloc (.cells #[.bool p, .int .u8 (cd : Nat), .slice A L.length c] 91)).alloc (.cells #[.slice none 0 0] 52)) = W0 at HX HB HN ⊢
  obtain ⟨x0, x1, x2⟩ := frcell HX.out
  have HXd := Lib.hid (blk_drew HX.out)
  have HNd := Lib.hid (HN.out.drew)
  have HBd := Lib.hid (below_dr HB.out)
  clear HX HN HB
  go_region_held3 (fun w' => w'.cell? ⟨w.heap.size, 0, none⟩ = some (.bool p) ∧ w'.cell? ⟨w.heap.size, 1, none⟩ = some (.int .u8 (cd : Nat))) (first | exact ⟨x0, x1⟩ | exact ⟨y0, y1⟩ | exact ⟨z0, z1⟩ | go_keep) (first
    | (go_at_call 114; (with_reducible refine (HBIT.out _).mono ?_); rintro e w1 ⟨rfl, rfl⟩)
    | (go_at_call 30; (with_reducible refine (byte_calls HNd.out (fun k hk => Nat.le_trans HBd.out.size hk) HL0.out y HY.out).mono ?_); rintro e w2 ⟨rfl, ho, hc1⟩; have HO2 := Lib.hid ho; have hx := Ch5.blk hc1 HXd.out (by omega) (by decide); have HX2 := Lib.hid hx; have HB2 := Lib.hid (HBd.out.trans (hc1.to_below HBd.out.size (by omega) (fun _ h => h))); obtain ⟨y0, y1, y2⟩ := frcell hx; clear ho hc1 hx)
    | (go_at_call 30; (with_reducible refine (byte_calls HO2.out (fun k hk => Nat.le_trans HB2.out.size hk) HL1.out cd HCD.out).mono ?_); rintro e w3 ⟨rfl, ho, hc1⟩; have HO3 := Lib.hid ho; have hx := Ch5.blk hc1 HX2.out (by omega) (by decide); have HX3 := Lib.hid hx; have HB3 := Lib.hid (HB2.out.trans (hc1.to_below HB2.out.size (by omega) (fun _ h => h))); obtain ⟨z0, z1, z2⟩ := frcell hx; clear ho hc1 hx))
  go_wp2_with (first
      | (go_at_call 108; refine (Put_calls HO3.out HB3.out.size (by show 2 ≤ 400000; omega) A c L hc (HPL.out.to HB3.out) HOK.out HSZ.out hll).mono ?_; rintro e w4 ⟨rfl, ho, hc1⟩; have HO4 := Lib.hid ho; have HB4 := Lib.hid (HB3.out.trans (hc1.to_below HB3.out.size (by omega) (fun _ h => h))); clear ho hc1)
      | (go_at_call 16; refine (text_calls HO4.out).mono ?_; rintro e w5 ⟨rfl, hb2⟩; have HB5 := Lib.hid (HB4.out.trans (hb2.mono HB4.out.size)); clear hb2))
  go_ret
  exact ⟨by rw [HBODY.out]; simp only [List.nil_append, List.append_assoc]; rfl, HB5.out⟩
end Go.Proofs.YtljbchghbpmghaaGreatDoor

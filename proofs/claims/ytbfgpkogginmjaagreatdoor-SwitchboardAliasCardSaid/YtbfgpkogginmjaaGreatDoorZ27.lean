/- Parts of a proof about aliases: E2. -/
import Derived.Test.YtbfgpkogginmjaaGreatDoorZ22
import Derived.Test.YtbfgpkogginmjaaGreatDoorZ25
section
namespace Go.Proofs.YtbfgpkogginmjaaGreatDoor
open Go.RowKit Go.Lib Go.Proofs.YtbfgpkogginmjaaGreatDoorW.PrintWords Go.Proofs.YtbfgpkogginmjaaGreatDoor.PSwitchboardGreat
set_option linter.unusedSectionVars false
variable [LawBase]
set_option linter.unusedVariables false
set_option linter.unusedSimpArgs false
set_option maxRecDepth 1000000
section
variable {w : World} {L : List (Nat × Obj)} {hb nm kN ci came : Nat} {lo : Nat → Nat} {id : Int} {wait said s : ByteArray} {esN : Array MapEntry} {i0 i4 i5 i6 : Nat}
theorem bwrite_calls (H : Held w L) (h0 : L[i0]? = some (hb, brO lo)) (h4 : L[i4]? = some (lo 1 + 1, netO nm)) (h5 : L[i5]? = some (nm, .map esN kN)) (hN : FInt esN id (.pointer (some ⟨ci, 0, none⟩))) (h6 : L[i6]? = some (ci, connO wait came said)) (hz : wait.size + s.size ≤ 9223372036854775807) :
    Calls Tryz.prog 21 #[.pointer (some ⟨hb, 0, none⟩), .int .i64 id, .string s] w (HeldP (.int .i64 0) (L.set i6 (ci, connO (wait ++ s) came said))) := by
  obtain ⟨b5, b6, b7, b8, b9, b10, b11, b12, b13, b3, b4, b1, b0⟩ := brcells (H.get i0 h0)
  have HC := Lib.hid (write_calls (s := s) (netat_of H h4 h5 hN) (show Conn w ci wait came said from H.get i6 h6) hz)
  have HF := Lib.hid (show Held (w.setCell ⟨ci, 0, none⟩ (.string (wait ++ s))) (L.set i6 (ci, connO (wait ++ s) came said)) from H.set i6 h6 (chg_cell _ ci 0 (.string (wait ++ s))) (blk_put (H.get i6 h6) 0 (.string (wait ++ s)) rfl))
  clear H h0 h4 h5 hN h6 hz
  go_enter Tryz.func21, Tryz.ntmps21
  go_wp2_with (first | (go_at_call 39; (with_reducible refine (HC.out).mono ?_); rintro e w7 ⟨rfl, rfl⟩))
  go_ret
  exact ⟨rfl, HF.out⟩
theorem bsaid_calls (H : Held w L) (h0 : L[i0]? = some (hb, brO lo)) (h4 : L[i4]? = some (lo 1 + 1, netO nm)) (h5 : L[i5]? = some (nm, .map esN kN)) (hN : FInt esN id (.pointer (some ⟨ci, 0, none⟩))) (h6 : L[i6]? = some (ci, connO wait came said)) :
    Calls Tryz.prog 24 #[.pointer (some ⟨hb, 0, none⟩), .int .i64 id] w (Is (.string said) w) := by
  obtain ⟨b5, b6, b7, b8, b9, b10, b11, b12, b13, b3, b4, b1, b0⟩ := brcells (H.get i0 h0)
  have HC := Lib.hid (said_calls (netat_of H h4 h5 hN) (show Conn w ci wait came said from H.get i6 h6))
  clear H h0 h4 h5 hN h6
  go_enter Tryz.func24, Tryz.ntmps24
  go_wp2_with (first | (go_at_call 48; (with_reducible refine (HC.out).mono ?_); rintro e w7 ⟨rfl, rfl⟩))
  go_ret
  exact ⟨rfl, rfl⟩
theorem alive_calls {l rd tb : Nat} {client : ByteArray} {on : Bool} (H : w.heap[l]? = some (linO id rd tb client on)) : Calls Tryz.prog 76 #[.pointer (some ⟨hb, 0, none⟩), .pointer (some ⟨l, 0, none⟩)] w (RB (.tuple #[]) w) := by
  obtain ⟨l0, l1, l2, l3, l4, l5⟩ := sixcell H
  clear H
  go_enter Tryz.func76, Tryz.ntmps76
  go_upto_region 0 with (fail)
  go_quiet (fail)
  go_wp2
  go_end0
  exact ⟨rfl, by first | exact bel_drewN _ | exact Below.refl _ _⟩
end
theorem fit38 : (281474976710656 < Builtin.nextslicecap 3 2 * Tryz.t38.bytes) = False := eq_false (by decide)
theorem cut_ge3 (x : Nat) : 3 ≤ (Question.appendCap 3 2 38).cut x := by
  simp [Question.cut]
def OffersP (w : World) (e : Ending) (w' : World) : Prop := ∃ b c, e = .returned (.slice (some ⟨b, 0, none⟩) 3 c) ∧ 3 ≤ c ∧ w.heap.size ≤ b ∧ Row1 w' b 38 #[.int .i64 33, .int .u32 30, .string ⟨#[]⟩, .string ⟨#[]⟩, .int .i64 39, .int .u32 2000, .string ⟨#[]⟩, .string ⟨#[]⟩, .int .i64 34, .int .u32 9, .string ⟨#[]⟩, .string ⟨#[]⟩] ∧ Below w.heap.size w w'
set_option maxHeartbeats 4000000 in
theorem offers_calls {w : World} {hb : Nat} {lo : Nat → Nat} (h : w.heap[hb]? = some (brO lo)) : Calls Tryz.prog 109 #[.pointer (some ⟨hb, 0, none⟩)] w (OffersP w) := by
  obtain ⟨b5, b6, b7, b8, b9, b10, b11, b12, b13, b3, b4, b1, b0⟩ := brcells h
  have hfit := fit38
  have HH := Lib.hid h
  clear h b5 b6 b7 b8 b9 b10 b11 b12 b13 b0
  go_enter Tryz.func109, Tryz.ntmps109
  go_upto_region 1 with (fail)
  go_region
  have hx : ((w.alloc (Obj.cells #[.int .i64 33, .int .u32 30, .string ⟨#[]⟩, .string ⟨#[]⟩, .int .i64 39, .int .u32 2000, .string ⟨#[]⟩, .string ⟨#[]⟩] 38)).drew).heap[w.heap.size]? = some (Obj.cells #[.int .i64 33, .int .u32 30, .string ⟨#[]⟩, .string ⟨#[]⟩, .int .i64 39, .int .u32 2000, .string ⟨#[]⟩, .string ⟨#[]⟩] 38) := heap_alloc_new w _
  have HB1 := Lib.hid (show Below w.heap.size w ((w.alloc (Obj.cells #[.int .i64 33, .int .u32 30, .string ⟨#[]⟩, .string ⟨#[]⟩, .int .i64 39, .int .u32 2000, .string ⟨#[]⟩, .string ⟨#[]⟩] 38)).drew) from (bel1 w (Obj.cells #[.int .i64 33, .int .u32 30, .string ⟨#[]⟩, .string ⟨#[]⟩, .int .i64 39, .int .u32 2000, .string ⟨#[]⟩, .string ⟨#[]⟩] 38)).drew)
  have HH1 := Lib.hid (blk_below HH.out HB1.out)
  generalize ((w.alloc (Obj.cells #[.int .i64 33, .int .u32 30, .string ⟨#[]⟩, .string ⟨#[]⟩, .int .i64 39, .int .u32 2000, .string ⟨#[]⟩, .string ⟨#[]⟩] 38)).drew) = X at hx HB1 HH1 ⊢
  have HAL := Lib.hid (Nat.le_refl w.heap.size)
  clear b3 b4 b1
  obtain ⟨b5, b6, b7, b8, b9, b10, b11, b12, b13, b3, b4, b1, b0⟩ := brcells HH1.out
  clear b5 b6 b7 b8 b9 b10 b11 b12 b13 b0
  obtain ⟨x0, x1, x2, x3, x4, x5, x6, x7⟩ := eightcell hx
  obtain ⟨y0, y1, y2, y3, y4, y5, y6, y7⟩ := eightcell (show ((X.alloc (Obj.cells #[.int .i64 34, .int .u32 9, .string ⟨#[]⟩, .string ⟨#[]⟩] 38)).drew).heap[w.heap.size]? = some (Obj.cells #[.int .i64 33, .int .u32 30, .string ⟨#[]⟩, .string ⟨#[]⟩, .int .i64 39, .int .u32 2000, .string ⟨#[]⟩, .string ⟨#[]⟩] 38) from blk_below hx (bel1 X (Obj.cells #[.int .i64 34, .int .u32 9, .string ⟨#[]⟩, .string ⟨#[]⟩] 38)).drew)
  clear hx
  go_wp2
  have hcg := cut_ge3 (X.tape X.drawn (Question.appendCap 3 2 38))
  generalize (Question.appendCap 3 2 38).cut (X.tape X.drawn (Question.appendCap 3 2 38)) = cc at hcg ⊢
  have hcg := Lib.hid hcg
  clear y0 y1 y2 y3 y4 y5 y6 y7 x0 x1 x2 x3 x4 x5 x6 x7 b3 b4 b1
  generalize Builtin.zeroCells #[Value.int IntKind.i64 0, Value.int IntKind.u32 0, Value.string { data := #[] }, Value.string { data := #[] }] (cc - 3) = Z
  have he : (#[Value.int IntKind.i64 33, Value.int IntKind.u32 30, Value.string { data := #[] }, Value.string { data := #[] }, Value.int IntKind.i64 39, Value.int IntKind.u32 2000, Value.string { data := #[] }, Value.string { data := #[] }] ++ (#[Value.int IntKind.i64 34, Value.int IntKind.u32 9, Value.string { data := #[] }, Value.string { data := #[] }] ++ Z)) = ((#[Value.int IntKind.i64 33, Value.int IntKind.u32 30, Value.string { data := #[] }, Value.string { data := #[] }, Value.int IntKind.i64 39, Value.int IntKind.u32 2000, Value.string { data := #[] }, Value.string { data := #[] }] ++ #[Value.int IntKind.i64 34, Value.int IntKind.u32 9, Value.string { data := #[] }, Value.string { data := #[] }]) ++ Z) := by rw [Array.append_assoc]
  rw [he]
  have hap := appd X (Obj.cells #[.int .i64 34, .int .u32 9, .string ⟨#[]⟩, .string ⟨#[]⟩] 38) (#[Value.int IntKind.i64 33, Value.int IntKind.u32 30, Value.string { data := #[] }, Value.string { data := #[] }, Value.int IntKind.i64 39, Value.int IntKind.u32 2000, Value.string { data := #[] }, Value.string { data := #[] }] ++ #[Value.int IntKind.i64 34, Value.int IntKind.u32 9, Value.string { data := #[] }, Value.string { data := #[] }]) Z 38
  have HAP := Lib.hid hap
  clear hap he
  go_ret
  exact ⟨_, cc, rfl, hcg.out, Nat.le_succ_of_le HB1.out.size, HAP.out.1, Below.into HB1.out HAP.out.2⟩
end Go.Proofs.YtbfgpkogginmjaaGreatDoor
end

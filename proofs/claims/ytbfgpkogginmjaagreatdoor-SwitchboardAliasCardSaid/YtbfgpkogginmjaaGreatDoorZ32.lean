/- Parts of a proof about aliases: E4. -/
import Derived.Test.YtbfgpkogginmjaaGreatDoorZ19
import Derived.Test.YtbfgpkogginmjaaGreatDoorZ28
import Derived.Test.YtbfgpkogginmjaaGreatDoorZ31
section
namespace Go.Proofs.YtbfgpkogginmjaaGreatDoor
open Go.RowKit Go.Lib Go.Proofs.YtbfgpkogginmjaaGreatDoorW.PrintWords Go.Proofs.YtbfgpkogginmjaaGreatDoor.PSwitchboardGreat
set_option linter.unusedSectionVars false
variable [LawBase]
set_option linter.unusedVariables false
set_option linter.unusedSimpArgs false
set_option maxRecDepth 1000000
structure ChunkIn (W : World) (hb l rd : Nat) (lo : Nat → Nat) (esL : Array MapEntry) (kL : Nat) : Prop where
  br : W.heap[hb]? = some (brO lo)
  mp : W.heap[lo 2]? = some (.map esL kL)
  rdp : W.cell? ⟨l, 1, none⟩ = some (.pointer (some ⟨rd, 0, none⟩))
  rdr : RD W rd 2000 ⟨#[]⟩ 0
theorem set_same {L : List (Nat × Obj)} {i : Nat} {x : Nat × Obj} (h : L[i]? = some x) : L.set i x = L := by
  apply List.ext_getElem?
  intro j
  rw [List.getElem?_set]
  split
  · rename_i e
    subst e
    rw [if_pos (List.getElem?_eq_some_iff.1 h).1, h]
  · rfl
def RetP (v : Value) (P : World → Prop) (e : Ending) (w' : World) : Prop := e = .returned v ∧ P w'
set_option maxHeartbeats 8000000 in
theorem chunk_ex {w : World} {L : List (Nat × Obj)} {hb l rd tb nm kN kL ci came i0 i2 i4 i5 i6 il ir k f : Nat} {lo : Nat → Nat} {id : Int} {client said B : ByteArray} {on : Bool} {esL esN : Array MapEntry} (H : Held w L)
    (h0 : L[i0]? = some (hb, brO lo)) (h2 : L[i2]? = some (lo 2, .map esL kL)) (hL : FInt esL id (.pointer (some ⟨l, 0, none⟩))) (hl : L[il]? = some (l, linO id rd tb client on)) (hr : L[ir]? = some (rd, rdO ⟨#[]⟩)) (h4 : L[i4]? = some (lo 1 + 1, netO nm)) (h5 : L[i5]? = some (nm, .map esN kN)) (hN : FInt esN id (.pointer (some ⟨ci, 0, none⟩))) (h6 : L[i6]? = some (ci, connO (toB (frB k f B)) came said))
    (hk : k < 16) (hf : f < 16) (hc : chk k f = 0) (hB : B.size ≤ 1900) (hz : came ≤ 100000000)
    (P1 P2 P3 : World → Prop) (aF : ∀ W, Held W (L.set i6 (ci, connO ⟨#[]⟩ (came + (frB k f B).length) said)) → Calls Tryz.prog 45 #[.pointer (some ⟨hb, 0, none⟩), .pointer (some ⟨l, 0, none⟩), fr k f B] W (RetP (.tuple #[]) P1))
    (aP1 : ∀ W, P1 W → Calls Tryz.prog 46 #[.pointer (some ⟨hb, 0, none⟩)] W (RetP (.tuple #[]) P2)) (aP2 : ∀ W, P2 W → Calls Tryz.prog 46 #[.pointer (some ⟨hb, 0, none⟩)] W (RetP (.tuple #[]) P3)) (aE : ∀ W, P2 W → ChunkIn W hb l rd lo esL kL) (aS : ∀ W W', P2 W → Chg (fun k => k = rd) W W' → RD W' rd 2000 ⟨#[]⟩ 0 → P2 W') :
    Calls Tryz.prog 23 #[.pointer (some ⟨hb, 0, none⟩), .int .i64 id, .int .i64 1048576] w (RetP (.int .i64 0) P3) := by
  have hlen : (frB k f B).length ≤ 1910 := by rw [frB_size]; have := varU_len5 B.size (by omega); omega
  have hpos : 0 < (frB k f B).length := by rw [frB_size]; omega
  have hq := read_calls (most := 1048576) (netat_of H h4 h5 hN) (show Conn w ci (toB (frB k f B)) came said from H.get i6 h6) (by rw [toB_size]; omega) (by rw [toB_size]; omega) (by rw [toB_size]; omega)
  rw [toB_size] at hq
  have HRC := Lib.hid hq
  obtain ⟨b5, b6, b7, b8, b9, b10, b11, b12, b13, b3, b4, b1, b0⟩ := brcells (H.get i0 h0)
  clear b7 b8 b9 b10 b11 b12 b13 b3 b4 b1 b0 hq
  have HH := Lib.hid H
  have HXL := Lib.hid (show i6 ≠ il from idx_obj h6 hl (cells_ne (by decide)))
  have HXR := Lib.hid (show i6 ≠ ir from idx_obj h6 hr (cells_ne (by decide)))
  have HX0 := Lib.hid (show i6 ≠ i0 from idx_obj h6 h0 (cells_ne (by decide)))
  have HX2 := Lib.hid (show i6 ≠ i2 from idx_obj h6 h2 (by intro h; cases h))
  have HHA := Lib.hid (show Held ((w.setCell ⟨ci, 0, none⟩ (.string ⟨#[]⟩)).setCell ⟨ci, 1, none⟩ (.int .i64 (came + (frB k f B).length : Nat))) (L.set i6 (ci, connO ⟨#[]⟩ (came + (frB k f B).length) said)) from H.set i6 h6 ((chg_cell w ci 0 _).trans (chg_cell _ ci 1 _)) (blk_put (blk_put (H.get i6 h6) 0 (.string ⟨#[]⟩) rfl) 1 (.int .i64 (came + (frB k f B).length : Nat)) rfl))
  have J0 := Lib.hid (show (L.set i6 (ci, connO ⟨#[]⟩ (came + (frB k f B).length) said))[i0]? = some (hb, brO lo) from set_other h0 HX0.out)
  have J2 := Lib.hid (show (L.set i6 (ci, connO ⟨#[]⟩ (came + (frB k f B).length) said))[i2]? = some (lo 2, .map esL kL) from set_other h2 HX2.out)
  have JL := Lib.hid (show (L.set i6 (ci, connO ⟨#[]⟩ (came + (frB k f B).length) said))[il]? = some (l, linO id rd tb client on) from set_other hl HXL.out)
  have JR := Lib.hid (show (L.set i6 (ci, connO ⟨#[]⟩ (came + (frB k f B).length) said))[ir]? = some (rd, rdO ⟨#[]⟩) from set_other hr HXR.out)
  have HFE : Hid (∀ W g, RD W g 2000 ⟨#[]⟩ 0 → Calls Tryz.prog 42 #[.pointer (some ⟨g, 0, none⟩), .string (toB (frB k f B))] W (RPost W g (.tuple #[]) 2000 (toB (frB k f B)) 0)) := Lib.hid (fun W g hR => by
    have h := feed_rd hR (toB (frB k f B)) (by show 0 + _ ≤ _; rw [toB_size]; omega)
    rw [empty_app] at h
    exact h)
  have hnf := nextF_fr 2000 k f B [] hk hf hc (by omega)
  rw [if_neg (by omega), List.append_nil] at hnf
  have HNX : Hid (∀ W g, RD W g 2000 (toB (frB k f B)) 0 → Calls Tryz.prog 43 #[.pointer (some ⟨g, 0, none⟩)] W (RPost W g (.tuple #[fr k f B, .int .i64 0]) 2000 ⟨#[]⟩ 0)) := Lib.hid (fun W g hR => by
    have h := next_calls hR (by rw [toB_size]; exact hpos)
    rw [hnf] at h
    exact h)
  have HF := Lib.hid aF
  have HP1 := Lib.hid aP1
  have HP2 := Lib.hid aP2
  have E2 := Lib.hid aE
  have S2 := Lib.hid aS
  obtain ⟨qL, hqL⟩ := hL
  have HQL := Lib.hid hqL
  clear aF aP1 aP2 aE aS hlen hpos hnf H h0 h2 hl hr h4 h5 hN h6 hk hf hc hB hz hqL
  unfold RetP at HF HP1 HP2
  generalize came + (frB k f B).length = came2 at HRC HHA J0 J2 JL JR HF
  generalize toB (frB k f B) = FB at HRC HFE HNX
  go_enter Tryz.func23, Tryz.ntmps23
  go_upto_region 4 with (first
    | (go_at_call 41; (with_reducible refine HRC.out.mono ?_); rintro e w1 ⟨rfl, rfl⟩))
  generalize ((w.setCell ⟨ci, 0, none⟩ (.string ⟨#[]⟩)).setCell ⟨ci, 1, none⟩ (.int .i64 (came2 : Nat))) = W1 at HHA ⊢
  clear b5 b6 HRC HH
  have HRD1 := Lib.hid (show RD W1 rd 2000 ⟨#[]⟩ 0 from HHA.out.get ir JR.out)
  have HNE := Lib.hid (show hb ≠ rd ∧ lo 2 ≠ rd ∧ l ≠ rd from ⟨blk_ne (HHA.out.get i0 J0.out) HRD1.out (by decide), fun e => cm_ne HRD1.out (HHA.out.get i2 J2.out) e.symm, blk_ne (HHA.out.get il JL.out) HRD1.out (by decide)⟩)
  obtain ⟨b5, b6, b7, b8, b9, b10, b11, b12, b13, b3, b4, b1, b0⟩ := brcells (HHA.out.get i0 J0.out)
  clear b5 b7 b8 b9 b10 b11 b12 b13 b3 b4 b1 b0
  obtain ⟨l0, l1, l2, l3, l4, l5⟩ := sixcell (HHA.out.get il JL.out)
  have hlk := look_h0 (mt := 99) Tryz.underlying99 Tryz.underlying3 (by simp [MapKept.IsKey]) (HHA.out.get i2 J2.out) HQL.out
  go_upto_region 6 with (first
    | (go_at_call 42; (with_reducible refine (HFE.out _ _ HRD1.out).mono ?_); rintro e w2 ⟨rfl, hrd, hc⟩; have HR2 := Lib.hid hrd; have HC2 := Lib.hid hc; have hbr := hc.blk (HHA.out.get i0 J0.out) HNE.out.1; have hmp := (hc.block _ (blk_lt (HHA.out.get i2 J2.out)) HNE.out.2.1).trans (HHA.out.get i2 J2.out); have hli := hc.blk (HHA.out.get il JL.out) HNE.out.2.2; have HBR := Lib.hid hbr; have HMP := Lib.hid hmp; have HLI := Lib.hid hli; clear hbr hmp hli hrd hc))
  clear b6 l0 l1 l2 l3 l4 l5 hlk HFE
  obtain ⟨b5, b6, b7, b8, b9, b10, b11, b12, b13, b3, b4, b1, b0⟩ := brcells HBR.out
  clear b5 b7 b8 b9 b10 b11 b12 b13 b3 b4 b1 b0
  obtain ⟨l0, l1, l2, l3, l4, l5⟩ := sixcell HLI.out
  have hlk := look_h0 (mt := 99) Tryz.underlying99 Tryz.underlying3 (by simp [MapKept.IsKey]) HMP.out HQL.out
  refine wp_loop_rounds 2 ?_
  rw [rounds_succ]
  unfold fr at HNX HF
  go_upto_region 11 with (first
    | (go_at_call 43; (with_reducible refine (HNX.out _ _ HR2.out).mono ?_); rintro e w3 ⟨rfl, hrd, hc⟩; have HH3 := Lib.hid (show Held (w3.alloc (Obj.cells #[.int .i64 (k : Nat), .int .i64 (f : Nat), .string B] 128)) (L.set i6 (ci, connO ⟨#[]⟩ came2 said)) from ((set_same JR.out) ▸ HHA.out.set ir JR.out (HC2.out.trans hc) hrd : Held w3 (L.set i6 (ci, connO ⟨#[]⟩ came2 said))).below (bel1 w3 (Obj.cells #[.int .i64 (k : Nat), .int .i64 (f : Nat), .string B] 128))); have HFO := Lib.hid (heap_alloc_new w3 (Obj.cells #[.int .i64 (k : Nat), .int .i64 (f : Nat), .string B] 128)); clear hrd hc))
  clear b6 l0 l1 l2 l3 l4 l5 hlk
  generalize w3.alloc (Obj.cells #[.int .i64 (k : Nat), .int .i64 (f : Nat), .string B] 128) = W4 at HH3 HFO ⊢
  generalize w3.heap.size = fb at HFO ⊢
  obtain ⟨x0, x1, x2⟩ := frcell HFO.out
  go_wp2_with (first
    | (go_at_call 45; (with_reducible refine (HF.out _ HH3.out).mono ?_); rintro e w5 ⟨rfl, hp⟩; have HPP1 := Lib.hid hp; clear hp)
    | (go_at_call 46; (with_reducible refine (HP1.out _ HPP1.out).mono ?_); rintro e w6 ⟨rfl, hp⟩; have HPP2 := Lib.hid hp; clear hp))
  clear x0 x1 x2 HF HP1 HH3 HHA
  have hci := E2.out _ HPP2.out
  have HCI := Lib.hid hci
  obtain ⟨b5, b6, b7, b8, b9, b10, b11, b12, b13, b3, b4, b1, b0⟩ := brcells hci.br
  clear b5 b7 b8 b9 b10 b11 b12 b13 b3 b4 b1 b0
  have l1 := hci.rdp
  have hlk := look_h0 (mt := 99) Tryz.underlying99 Tryz.underlying3 (by simp [MapKept.IsKey]) hci.mp HQL.out
  have HNN := Lib.hid (next_nil hci.rdr)
  unfold RPost fr at HNN
  clear hci
  rw [rounds_succ]
  go_upto_region 13 with (first
    | (go_at_call 43; (with_reducible refine (HNN.out).mono ?_); rintro e w7 ⟨rfl, hrd, hc⟩; have HPP7 := Lib.hid (S2.out _ (w7.alloc (Obj.cells #[.int .i64 0, .int .i64 0, .string ⟨#[]⟩] 128)) HPP2.out (hc.below (bel1 w7 (Obj.cells #[.int .i64 0, .int .i64 0, .string ⟨#[]⟩] 128))) (blk_alloc hrd (Obj.cells #[.int .i64 0, .int .i64 0, .string ⟨#[]⟩] 128))); clear hrd hc))
  clear b6 l1 hlk HNN HCI S2 E2 HPP1 HPP2
  generalize w7.alloc (Obj.cells #[.int .i64 0, .int .i64 0, .string ⟨#[]⟩] 128) = W8 at HPP7 ⊢
  go_wp2_with (first
    | (go_at_call 46; (with_reducible refine (HP2.out _ HPP7.out).mono ?_); rintro e w9 ⟨rfl, hp⟩; have HPP9 := Lib.hid hp; clear hp))
  go_ret
  exact ⟨rfl, HPP9.out⟩
end Go.Proofs.YtbfgpkogginmjaaGreatDoor
end

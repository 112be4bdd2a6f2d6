/- Parts of a proof about aliases: T8, T9. -/
import Derived.Test.YtbfgpkogginmjaaGreatDoorZ17
import Derived.Test.YtbfgpkogginmjaaGreatDoorZ26
import Derived.Test.YtbfgpkogginmjaaGreatDoorZ28
section
namespace Go.Proofs.YtbfgpkogginmjaaGreatDoor
open Go.RowKit Go.Lib Go.Proofs.YtbfgpkogginmjaaGreatDoorW.PrintWords Go.Proofs.YtbfgpkogginmjaaGreatDoor.PSwitchboardGreat
set_option linter.unusedSectionVars false
variable [LawBase]
set_option linter.unusedVariables false
set_option linter.unusedSimpArgs false
set_option maxRecDepth 1000000
def delC (c f n : ByteArray) : Array Value := #[.string c, .string f, .int .i64 0, .int .u8 0, .bool false, .slice none 0 0, .string n, .string ⟨#[]⟩]
theorem row6 {w : World} {b : Nat} (h : Row1 w b 147 keptC) : w.cell? ⟨b, 0, none⟩ = some (.string ⟨#[35]⟩) ∧ w.cell? ⟨b, 1, none⟩ = some (.int .u8 0) ∧ w.cell? ⟨b, 2, none⟩ = some (.bool false) ∧ w.cell? ⟨b, 3, none⟩ = some (.bool false) ∧ w.cell? ⟨b, 4, none⟩ = some (.int .u8 0) ∧ w.cell? ⟨b, 5, none⟩ = some (.int .u32 0) :=
  ⟨h.cell 0 _ rfl, h.cell 1 _ rfl, h.cell 2 _ rfl, h.cell 3 _ rfl, h.cell 4 _ rfl, h.cell 5 _ rfl⟩
set_option maxHeartbeats 4000000 in
theorem deliver_calls {w : World} {c f n : ByteArray} {lb lc : Nat} (hr : Row1 w lb 147 keptC) : Calls Tryz.prog 204 #[.string c, msg f n, .slice (some ⟨lb, 0, none⟩) 1 lc, .bool false] w (RB (.agg (delC c f n)) w) := by
  unfold msg
  have hb1 : Below w.heap.size w ((w.alloc (Obj.cells #[.string f, .int .i64 0, .int .u8 0, .bool false, .slice none 0 0, .string n, .string ⟨#[]⟩] 278)).alloc (Obj.cells #[.string ⟨#[]⟩, .string ⟨#[]⟩, .int .i64 0, .int .u8 0, .bool false, .slice none 0 0, .string ⟨#[]⟩, .string ⟨#[]⟩] 357)) := bel_alloc (bel1 w (Obj.cells #[.string f, .int .i64 0, .int .u8 0, .bool false, .slice none 0 0, .string n, .string ⟨#[]⟩] 278))
  have HM := Lib.hid (show ((w.alloc (Obj.cells #[.string f, .int .i64 0, .int .u8 0, .bool false, .slice none 0 0, .string n, .string ⟨#[]⟩] 278)).alloc (Obj.cells #[.string ⟨#[]⟩, .string ⟨#[]⟩, .int .i64 0, .int .u8 0, .bool false, .slice none 0 0, .string ⟨#[]⟩, .string ⟨#[]⟩] 357)).heap[w.heap.size]? = some (Obj.cells #[.string f, .int .i64 0, .int .u8 0, .bool false, .slice none 0 0, .string n, .string ⟨#[]⟩] 278) from blk_alloc (heap_alloc_new w (Obj.cells #[.string f, .int .i64 0, .int .u8 0, .bool false, .slice none 0 0, .string n, .string ⟨#[]⟩] 278)) (Obj.cells #[.string ⟨#[]⟩, .string ⟨#[]⟩, .int .i64 0, .int .u8 0, .bool false, .slice none 0 0, .string ⟨#[]⟩, .string ⟨#[]⟩] 357))
  have HD := Lib.hid (show ((w.alloc (Obj.cells #[.string f, .int .i64 0, .int .u8 0, .bool false, .slice none 0 0, .string n, .string ⟨#[]⟩] 278)).alloc (Obj.cells #[.string ⟨#[]⟩, .string ⟨#[]⟩, .int .i64 0, .int .u8 0, .bool false, .slice none 0 0, .string ⟨#[]⟩, .string ⟨#[]⟩] 357)).heap[w.heap.size + 1]? = some (Obj.cells #[.string ⟨#[]⟩, .string ⟨#[]⟩, .int .i64 0, .int .u8 0, .bool false, .slice none 0 0, .string ⟨#[]⟩, .string ⟨#[]⟩] 357) from blk_top (by rw [World.size_alloc]))
  have HR := Lib.hid (hr.below hb1)
  have HB := Lib.hid hb1
  have HLA := Lib.hid (Nat.le_refl w.heap.size)
  have HLB := Lib.hid (show w.heap.size ≤ w.heap.size + 1 from Nat.le_succ _)
  have HC := Lib.hid (fun W => clonep_calls (w := W))
  clear hr hb1
  go_enter Tryz.func204, Tryz.ntmps204
  go_upto_region 1 with (fail)
  generalize ((w.alloc (Obj.cells #[.string f, .int .i64 0, .int .u8 0, .bool false, .slice none 0 0, .string n, .string ⟨#[]⟩] 278)).alloc (Obj.cells #[.string ⟨#[]⟩, .string ⟨#[]⟩, .int .i64 0, .int .u8 0, .bool false, .slice none 0 0, .string ⟨#[]⟩, .string ⟨#[]⟩] 357)) = X at HM HD HR HB ⊢
  generalize w.heap.size + 1 = b at HD HLB ⊢
  have hlb : lb ≠ w.heap.size := Row1.ne HR.out HM.out (by decide)
  have HLM := Lib.hid hlb
  clear hlb
  obtain ⟨a, HA⟩ : ∃ a, Hid (a = w.heap.size) := ⟨_, Lib.hid rfl⟩
  rw [← HA.out] at HM HLM ⊢
  obtain ⟨m0, m1, m2, m3, m4, m5, m6⟩ := sevencell HM.out
  have fm := blk_frozen HM.out 4
  go_upto_region 4 with (first
    | (go_at_call 192; (with_reducible refine ((HC.out _)).mono ?_); rintro e w3 ⟨rfl, hw⟩; have hw := hw.symm; subst hw))
  have hy := chg_setc' (w := X) a 4 (.slice none 0 0)
  have HM2 := Lib.hid (show (X.setCell ⟨a, 4, none⟩ (.slice none 0 0)).heap[a]? = some (Obj.cells #[.string f, .int .i64 0, .int .u8 0, .bool false, .slice none 0 0, .string n, .string ⟨#[]⟩] 278) from blk_put HM.out 4 _ rfl)
  have HD2 := Lib.hid (show (X.setCell ⟨a, 4, none⟩ (.slice none 0 0)).heap[b]? = some (Obj.cells #[.string ⟨#[]⟩, .string ⟨#[]⟩, .int .i64 0, .int .u8 0, .bool false, .slice none 0 0, .string ⟨#[]⟩, .string ⟨#[]⟩] 357) from hy.blk HD.out (blk_ne HD.out HM.out (by decide)))
  have HR2 := Lib.hid (show Row1 (X.setCell ⟨a, 4, none⟩ (.slice none 0 0)) lb 147 keptC from HR.out.to hy HLM.out)
  have HB2 := Lib.hid (show Below w.heap.size w (X.setCell ⟨a, 4, none⟩ (.slice none 0 0)) from HB.out.setCell (Nat.le_of_eq HA.out.symm) _)
  clear hy m0 m1 m2 m3 m4 m5 m6 fm HM HD HR HB
  generalize (X.setCell ⟨a, 4, none⟩ (.slice none 0 0)) = X2 at HM2 HD2 HR2 HB2 ⊢
  obtain ⟨r0, r1, r2, r3, r4, r5⟩ := row6 HR2.out
  go_upto_region 5 with (fail)
  refine wp_loop_rounds 2 ?_
  rw [rounds_succ]
  go_upto_region 7 with (fail)
  have hk := bel1 X2 (Obj.cells #[.string ⟨#[35]⟩, .int .u8 0, .bool false, .bool false, .int .u8 0, .int .u32 0] 147)
  have HK3 := Lib.hid (heap_alloc_new X2 (Obj.cells #[.string ⟨#[35]⟩, .int .u8 0, .bool false, .bool false, .int .u8 0, .int .u32 0] 147))
  have HM3 := Lib.hid (blk_below HM2.out hk)
  have HD3 := Lib.hid (blk_below HD2.out hk)
  have HB3 := Lib.hid (Below.into HB2.out hk)
  clear hk r0 r1 r2 r3 r4 r5 HM2 HD2 HR2 HB2
  generalize X2.alloc (Obj.cells #[.string ⟨#[35]⟩, .int .u8 0, .bool false, .bool false, .int .u8 0, .int .u32 0] 147) = X3 at HK3 HM3 HD3 HB3 ⊢
  generalize X2.heap.size = d at HK3 ⊢
  obtain ⟨k0, k1, k2, k3, k4, k5⟩ := sixcell HK3.out
  go_wp2
  rw [rounds_succ]
  clear k0 k1 k2 k3 k4 k5
  obtain ⟨m0, m1, m2, m3, m4, m5, m6⟩ := sevencell HM3.out
  have fm2 := blk_frozen HM3.out 2
  go_upto_region 13 with (fail)
  have hy := chg_setc' (w := X3) a 2 (.int .u8 0)
  have HM4 := Lib.hid (show (X3.setCell ⟨a, 2, none⟩ (.int .u8 0)).heap[a]? = some (Obj.cells #[.string f, .int .i64 0, .int .u8 0, .bool false, .slice none 0 0, .string n, .string ⟨#[]⟩] 278) from blk_put HM3.out 2 _ rfl)
  have HD4 := Lib.hid (show (X3.setCell ⟨a, 2, none⟩ (.int .u8 0)).heap[b]? = some (Obj.cells #[.string ⟨#[]⟩, .string ⟨#[]⟩, .int .i64 0, .int .u8 0, .bool false, .slice none 0 0, .string ⟨#[]⟩, .string ⟨#[]⟩] 357) from hy.blk HD3.out (blk_ne HD3.out HM3.out (by decide)))
  have HB4 := Lib.hid (show Below w.heap.size w (X3.setCell ⟨a, 2, none⟩ (.int .u8 0)) from HB3.out.setCell (Nat.le_of_eq HA.out.symm) _)
  clear hy m0 m1 m2 m3 m4 m5 m6 fm2 HM3 HD3 HB3
  generalize (X3.setCell ⟨a, 2, none⟩ (.int .u8 0)) = X4 at HM4 HD4 HB4 ⊢
  obtain ⟨m0, m1, m2, m3, m4, m5, m6⟩ := sevencell HM4.out
  have fm3 := blk_frozen HM4.out 3
  go_upto_region 14 with (fail)
  have hy := chg_setc' (w := X4) a 3 (.bool false)
  have HM5 := Lib.hid (show (X4.setCell ⟨a, 3, none⟩ (.bool false)).heap[a]? = some (Obj.cells #[.string f, .int .i64 0, .int .u8 0, .bool false, .slice none 0 0, .string n, .string ⟨#[]⟩] 278) from blk_put HM4.out 3 _ rfl)
  have HD5 := Lib.hid (show (X4.setCell ⟨a, 3, none⟩ (.bool false)).heap[b]? = some (Obj.cells #[.string ⟨#[]⟩, .string ⟨#[]⟩, .int .i64 0, .int .u8 0, .bool false, .slice none 0 0, .string ⟨#[]⟩, .string ⟨#[]⟩] 357) from hy.blk HD4.out (blk_ne HD4.out HM4.out (by decide)))
  have HB5 := Lib.hid (show Below w.heap.size w (X4.setCell ⟨a, 3, none⟩ (.bool false)) from HB4.out.setCell (Nat.le_of_eq HA.out.symm) _)
  clear hy m0 m1 m2 m3 m4 m5 m6 fm3 HM4 HD4 HB4
  generalize (X4.setCell ⟨a, 3, none⟩ (.bool false)) = X5 at HM5 HD5 HB5 ⊢
  obtain ⟨m0, m1, m2, m3, m4, m5, m6⟩ := sevencell HM5.out
  obtain ⟨d0, d1, d2, d3, d4, d5, d6, d7⟩ := eightcell HD5.out
  have f0 := blk_frozen HD5.out 0
  have f1 := blk_frozen HD5.out 1
  have f2 := blk_frozen HD5.out 2
  have f3 := blk_frozen HD5.out 3
  have f4 := blk_frozen HD5.out 4
  have f5 := blk_frozen HD5.out 5
  have f6 := blk_frozen HD5.out 6
  have f7 := blk_frozen HD5.out 7
  go_wp2
  obtain ⟨WF, hWF, hF, hC⟩ := set8 HD5.out (.string c) (.string f) (.int .i64 0) (.int .u8 0) (.bool false) (.slice none 0 0) (.string n) (.string ⟨#[]⟩)
  have HC := Lib.hid hC
  rw [← hWF]
  have HBF := Lib.hid (show Below w.heap.size w WF from HB5.out.trans (hC.to_below HB5.out.size (fun k hk => hk ▸ HLB.out)))
  clear m0 m1 m2 m3 m4 m5 m6 d0 d1 d2 d3 d4 d5 d6 d7 f0 f1 f2 f3 f4 f5 f6 f7 hC hWF
  exact bodyPost_ret (v := .agg (delC c f n)) (by simp [results, Tryz.results204, go_sem, eightcell hF, delC]) rfl ⟨rfl, HBF.out⟩
def tblO (tp sp pk : Nat) : Obj := .cells #[.pointer (some ⟨tp, 0, none⟩), .pointer (some ⟨sp, 0, none⟩), .pointer (some ⟨pk, 0, none⟩)] 151
theorem fit147 : (281474976710656 < Builtin.nextslicecap 1 0 * Tryz.t147.bytes) = False := eq_false (by decide)
theorem fit357 : (281474976710656 < Builtin.nextslicecap 1 0 * Tryz.t357.bytes) = False := eq_false (by decide)
theorem hitcells {w : World} {b : Nat} {s : ByteArray} (h : Row1 w b 389 (hitC s)) : w.cell? ⟨b, 0, none⟩ = some (.string ⟨#[35]⟩) ∧ w.cell? ⟨b, 1, none⟩ = some (.string s) ∧ w.cell? ⟨b, 2, none⟩ = some (.string ⟨#[35]⟩) ∧ w.cell? ⟨b, 3, none⟩ = some (.int .u8 0) ∧ w.cell? ⟨b, 4, none⟩ = some (.bool false) ∧ w.cell? ⟨b, 5, none⟩ = some (.bool false) ∧ w.cell? ⟨b, 6, none⟩ = some (.int .u8 0) ∧ w.cell? ⟨b, 7, none⟩ = some (.int .u32 0) :=
  ⟨h.cell 0 _ rfl, h.cell 1 _ rfl, h.cell 2 _ rfl, h.cell 3 _ rfl, h.cell 4 _ rfl, h.cell 5 _ rfl, h.cell 6 _ rfl, h.cell 7 _ rfl⟩
def DirectP (w : World) (f n : ByteArray) (e : Ending) (w' : World) : Prop := ∃ B c, e = .returned (.slice (some ⟨B, 0, none⟩) 1 c) ∧ 1 ≤ c ∧ w.heap.size ≤ B ∧ Row1 w' B 357 (delC ⟨#[115, 117, 98]⟩ f n) ∧ Below w.heap.size w w'
set_option maxHeartbeats 800000 in
theorem direct_calls {w : World} {tb tp sp pk rt nx hs y yn yh : Nat} {f n : ByteArray} (hb : w.heap[tb]? = some (tblO tp sp pk)) (ht : w.heap[tp]? = some (trieO rt 1)) (h1 : w.heap[rt]? = some (nodeO nx hs)) (h2 : w.heap[nx]? = some (.map #[⟨.string ⟨#[35]⟩, .pointer (some ⟨y, 0, none⟩), 0⟩] 1)) (hy : w.heap[y]? = some (nodeO yn yh)) (hm : w.heap[yh]? = some (.map #[⟨.string ⟨#[115, 117, 98]⟩, keptV, 0⟩] 1)) (hM : HasM w) (hn : NmB n) (h0 : 0 < n.size) (hz : n.size ≤ 100) : Calls Tryz.prog 248 #[.pointer (some ⟨tb, 0, none⟩), msg f n] w (DirectP w f n) := by
  have HDE := Lib.hid (fun W lb lc (h : Row1 W lb 147 keptC) => deliver_calls (c := ⟨#[115, 117, 98]⟩) (f := f) (n := n) (lc := lc) h)
  have hfit := fit147
  have hfit2 := fit357
  unfold msg at HDE ⊢
  have hb1 : Below w.heap.size w ((w.alloc (Obj.cells #[.string f, .int .i64 0, .int .u8 0, .bool false, .slice none 0 0, .string n, .string ⟨#[]⟩] 278)).drew) := (bel1 w (Obj.cells #[.string f, .int .i64 0, .int .u8 0, .bool false, .slice none 0 0, .string n, .string ⟨#[]⟩] 278)).drew
  have HM := Lib.hid (show ((w.alloc (Obj.cells #[.string f, .int .i64 0, .int .u8 0, .bool false, .slice none 0 0, .string n, .string ⟨#[]⟩] 278)).drew).heap[w.heap.size]? = some (Obj.cells #[.string f, .int .i64 0, .int .u8 0, .bool false, .slice none 0 0, .string n, .string ⟨#[]⟩] 278) from heap_alloc_new w (Obj.cells #[.string f, .int .i64 0, .int .u8 0, .bool false, .slice none 0 0, .string n, .string ⟨#[]⟩] 278))
  have HB := Lib.hid hb1
  have HTB := Lib.hid (blk_below hb hb1)
  have HMA := Lib.hid (match1_calls (blk_below ht hb1) (blk_below h1 hb1) ((hb1.block _ (blk_lt h2)).trans h2) (blk_below hy hb1) ((hb1.block _ (blk_lt hm)).trans hm) (hM.to hb1) hn h0 hz (by decide))
  unfold MatchP at HMA
  clear hb ht h1 h2 hy hm hM hn h0 hz hb1
  go_enter Tryz.func248, Tryz.ntmps248
  go_upto_region 1 with (fail)
  obtain ⟨m0, m1, m2, m3, m4, m5, m6⟩ := sevencell HM.out
  have htb := HTB.out
  unfold tblO at htb
  obtain ⟨b0, b1, b2⟩ := frcell htb
  clear htb
  go_region_held3 (fun w' => w'.cell? ⟨tb, 0, none⟩ = some (.pointer (some ⟨tp, 0, none⟩)) ∧ w'.cell? ⟨w.heap.size, 5, none⟩ = some (.string n)) (first | exact ⟨b0, m5⟩ | exact ⟨x0, y5⟩ | go_keep) (first
    | (go_at_call 286; (with_reducible refine (HMA.out).mono ?_); rintro e w2 ⟨H, hc, rfl, hh1, hhs, hhr, hhb⟩; have HC := Lib.hid hh1; have HHR := Lib.hid hhr; have HB2 := Lib.hid (Below.into HB.out hhb); have HM2 := Lib.hid (blk_below HM.out hhb); have htb := blk_below HTB.out hhb; unfold tblO at htb; obtain ⟨x0, x1, x2⟩ := frcell htb; obtain ⟨y0, y1, y2, y3, y4, y5, y6⟩ := sevencell HM2.out; clear htb hh1 hhs hhr hhb))
  clear x0 x1 x2 y0 y1 y2 y3 y4 y5 y6 m0 m1 m2 m3 m4 m5 m6 b0 b1 b2
  have HSS := Lib.hid (fun f => ss_calls (w := w2) (A := some ⟨H, 0, none⟩) (c := hc) (n := 1) (f := f) (by decide))
  go_upto_region 4 with (first
    | (go_at_call 278; (with_reducible refine (HSS.out _).mono ?_); rintro e w5 ⟨rfl, hw⟩; have hw := hw.symm; subst hw))
  obtain ⟨h0, h1, h2, h3, h4, h5, h6, h7⟩ := hitcells HHR.out
  refine wp_loop_rounds 2 ?_
  rw [rounds_succ]
  go_upto_region 7 with (fail)
  refine wp_loop_rounds 2 ?_
  rw [rounds_succ]
  go_upto_region 9 with (fail)
  have hk := bel1 w2 (Obj.cells #[.string ⟨#[35]⟩, .int .u8 0, .bool false, .bool false, .int .u8 0, .int .u32 0] 147)
  have HK3 := Lib.hid (heap_alloc_new w2 (Obj.cells #[.string ⟨#[35]⟩, .int .u8 0, .bool false, .bool false, .int .u8 0, .int .u32 0] 147))
  have HM3 := Lib.hid (blk_below HM2.out hk)
  have HR3 := Lib.hid (HHR.out.below hk)
  have HB3 := Lib.hid (Below.into HB2.out hk)
  clear hk h0 h1 h2 h3 h4 h5 h6 h7 HM2 HHR HB2
  generalize w2.alloc (Obj.cells #[.string ⟨#[35]⟩, .int .u8 0, .bool false, .bool false, .int .u8 0, .int .u32 0] 147) = X3 at HK3 HM3 HR3 HB3 ⊢
  generalize w2.heap.size = d at HK3 ⊢
  obtain ⟨k0, k1, k2, k3, k4, k5⟩ := sixcell HK3.out
  go_upto_region 11 with (fail)
  have HCG := Lib.hid (cut_ge 147 (X3.tape X3.drawn (Question.appendCap 1 0 147)))
  generalize (Question.appendCap 1 0 147).cut (X3.tape X3.drawn (Question.appendCap 1 0 147)) = cc at HCG ⊢
  have hap := appd X3 (Obj.cells #[.string ⟨#[35]⟩, .int .u8 0, .bool false, .bool false, .int .u8 0, .int .u32 0] 147) keptC (Builtin.zeroCells #[Value.string { data := #[] }, Value.int IntKind.u8 0, Value.bool false, Value.bool false, Value.int IntKind.u8 0, Value.int IntKind.u32 0] (cc - 1)) 147
  have HL4 := Lib.hid (show Row1 (((X3.alloc (Obj.cells #[.string ⟨#[35]⟩, .int .u8 0, .bool false, .bool false, .int .u8 0, .int .u32 0] 147)).alloc (Obj.cells (#[Value.string { data := #[35] }, Value.int IntKind.u8 0, Value.bool false, Value.bool false, Value.int IntKind.u8 0, Value.int IntKind.u32 0] ++ (Builtin.zeroCells #[Value.string { data := #[] }, Value.int IntKind.u8 0, Value.bool false, Value.bool false, Value.int IntKind.u8 0, Value.int IntKind.u32 0] (cc - 1))) 147)).drew) (X3.heap.size + 1) 147 keptC from hap.1)
  have HM4 := Lib.hid (show (((X3.alloc (Obj.cells #[.string ⟨#[35]⟩, .int .u8 0, .bool false, .bool false, .int .u8 0, .int .u32 0] 147)).alloc (Obj.cells (#[Value.string { data := #[35] }, Value.int IntKind.u8 0, Value.bool false, Value.bool false, Value.int IntKind.u8 0, Value.int IntKind.u32 0] ++ (Builtin.zeroCells #[Value.string { data := #[] }, Value.int IntKind.u8 0, Value.bool false, Value.bool false, Value.int IntKind.u8 0, Value.int IntKind.u32 0] (cc - 1))) 147)).drew).heap[w.heap.size]? = some (Obj.cells #[.string f, .int .i64 0, .int .u8 0, .bool false, .slice none 0 0, .string n, .string ⟨#[]⟩] 278) from blk_below HM3.out hap.2)
  have HB4 := Lib.hid (show Below w.heap.size w (((X3.alloc (Obj.cells #[.string ⟨#[35]⟩, .int .u8 0, .bool false, .bool false, .int .u8 0, .int .u32 0] 147)).alloc (Obj.cells (#[Value.string { data := #[35] }, Value.int IntKind.u8 0, Value.bool false, Value.bool false, Value.int IntKind.u8 0, Value.int IntKind.u32 0] ++ (Builtin.zeroCells #[Value.string { data := #[] }, Value.int IntKind.u8 0, Value.bool false, Value.bool false, Value.int IntKind.u8 0, Value.int IntKind.u32 0] (cc - 1))) 147)).drew) from Below.into HB3.out hap.2)
  generalize (((X3.alloc (Obj.cells #[.string ⟨#[35]⟩, .int .u8 0, .bool false, .bool false, .int .u8 0, .int .u32 0] 147)).alloc (Obj.cells (#[Value.string { data := #[35] }, Value.int IntKind.u8 0, Value.bool false, Value.bool false, Value.int IntKind.u8 0, Value.int IntKind.u32 0] ++ (Builtin.zeroCells #[Value.string { data := #[] }, Value.int IntKind.u8 0, Value.bool false, Value.bool false, Value.int IntKind.u8 0, Value.int IntKind.u32 0] (cc - 1))) 147)).drew) = X4 at HL4 HM4 HB4 ⊢
  generalize X3.heap.size + 1 = lb at HL4 ⊢
  clear hap k0 k1 k2 k3 k4 k5 HK3 HM3 HR3 HB3
  obtain ⟨m0, m1, m2, m3, m4, m5, m6⟩ := sevencell HM4.out
  have HD := Lib.hid (HDE.out X4 lb cc HL4.out)
  unfold RB delC at HD
  clear HL4 HDE
  have hch : hc = 1 ∨ (hc ≠ 1 ∧ ¬ hc - 1 = 0 ∧ 1 < hc) := by have := HC.out; omega
  rcases hch with rfl | ⟨hc1, hc2, hc3⟩
  all_goals (
    go_upto_region 11 with (fail)
    go_wp2
    rw [rounds_succ]
    go_upto_region 13 with (fail)
    go_wp2_with (first
      | (go_at_call 204; (with_reducible refine (HD.out).mono ?_); rintro e w5 ⟨rfl, hb⟩; have HB5 := Lib.hid (Below.into HB4.out hb); clear hb))
    have HCH := Lib.hid (cut_ge 357 (w5.tape w5.drawn (Question.appendCap 1 0 357)))
    generalize (Question.appendCap 1 0 357).cut (w5.tape w5.drawn (Question.appendCap 1 0 357)) = cd at HCH ⊢
    have hap := appd w5 (Obj.cells #[Value.string { data := #[115, 117, 98] }, Value.string f, Value.int IntKind.i64 0, Value.int IntKind.u8 0, Value.bool false, Value.slice none 0 0, Value.string n, Value.string { data := #[] }] 357) #[Value.string { data := #[115, 117, 98] }, Value.string f, Value.int IntKind.i64 0, Value.int IntKind.u8 0, Value.bool false, Value.slice none 0 0, Value.string n, Value.string { data := #[] }] (Builtin.zeroCells #[Value.string { data := #[] }, Value.string { data := #[] }, Value.int IntKind.i64 0, Value.int IntKind.u8 0, Value.bool false, Value.slice none 0 0, Value.string { data := #[] }, Value.string { data := #[] }] (cd - 1)) 357
    have HR6 := Lib.hid (show Row1 (((w5.alloc (Obj.cells #[Value.string { data := #[115, 117, 98] }, Value.string f, Value.int IntKind.i64 0, Value.int IntKind.u8 0, Value.bool false, Value.slice none 0 0, Value.string n, Value.string { data := #[] }] 357)).alloc (Obj.cells (#[Value.string { data := #[115, 117, 98] }, Value.string f, Value.int IntKind.i64 0, Value.int IntKind.u8 0, Value.bool false, Value.slice none 0 0, Value.string n, Value.string { data := #[] }] ++ (Builtin.zeroCells #[Value.string { data := #[] }, Value.string { data := #[] }, Value.int IntKind.i64 0, Value.int IntKind.u8 0, Value.bool false, Value.slice none 0 0, Value.string { data := #[] }, Value.string { data := #[] }] (cd - 1))) 357)).drew) (w5.heap.size + 1) 357 (delC ⟨#[115, 117, 98]⟩ f n) from hap.1)
    have HB6 := Lib.hid (show Below w.heap.size w (((w5.alloc (Obj.cells #[Value.string { data := #[115, 117, 98] }, Value.string f, Value.int IntKind.i64 0, Value.int IntKind.u8 0, Value.bool false, Value.slice none 0 0, Value.string n, Value.string { data := #[] }] 357)).alloc (Obj.cells (#[Value.string { data := #[115, 117, 98] }, Value.string f, Value.int IntKind.i64 0, Value.int IntKind.u8 0, Value.bool false, Value.slice none 0 0, Value.string n, Value.string { data := #[] }] ++ (Builtin.zeroCells #[Value.string { data := #[] }, Value.string { data := #[] }, Value.int IntKind.i64 0, Value.int IntKind.u8 0, Value.bool false, Value.slice none 0 0, Value.string { data := #[] }, Value.string { data := #[] }] (cd - 1))) 357)).drew) from Below.into HB5.out hap.2)
    have HS6 := Lib.hid (show w.heap.size ≤ w5.heap.size + 1 from Nat.le_succ_of_le HB5.out.size)
    generalize (((w5.alloc (Obj.cells #[Value.string { data := #[115, 117, 98] }, Value.string f, Value.int IntKind.i64 0, Value.int IntKind.u8 0, Value.bool false, Value.slice none 0 0, Value.string n, Value.string { data := #[] }] 357)).alloc (Obj.cells (#[Value.string { data := #[115, 117, 98] }, Value.string f, Value.int IntKind.i64 0, Value.int IntKind.u8 0, Value.bool false, Value.slice none 0 0, Value.string n, Value.string { data := #[] }] ++ (Builtin.zeroCells #[Value.string { data := #[] }, Value.string { data := #[] }, Value.int IntKind.i64 0, Value.int IntKind.u8 0, Value.bool false, Value.slice none 0 0, Value.string { data := #[] }, Value.string { data := #[] }] (cd - 1))) 357)).drew) = X6 at HR6 HB6 ⊢
    generalize w5.heap.size + 1 = Bf at HR6 HS6 ⊢
    clear hap m0 m1 m2 m3 m4 m5 m6
    rw [rounds_succ]
    go_wp2
    go_ret
    exact ⟨Bf, cd, rfl, HCH.out, HS6.out, HR6.out, HB6.out⟩)
end Go.Proofs.YtbfgpkogginmjaaGreatDoor
end

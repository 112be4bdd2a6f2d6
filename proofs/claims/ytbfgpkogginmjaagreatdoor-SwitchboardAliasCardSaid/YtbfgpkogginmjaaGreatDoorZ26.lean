/- Parts of a proof about aliases: T4, T5, T6, T7. -/
import Derived.Test.YtbfgpkogginmjaaGreatDoorZ19
import Derived.Test.YtbfgpkogginmjaaGreatDoorZ24
import Derived.Test.YtbfgpkogginmjaaGreatDoorZ25
section
namespace Go.Proofs.YtbfgpkogginmjaaGreatDoor
open Go.RowKit Go.Lib Go.Proofs.YtbfgpkogginmjaaGreatDoorW.PrintWords Go.Proofs.YtbfgpkogginmjaaGreatDoor.PSwitchboardGreat
set_option linter.unusedSectionVars false
variable [LawBase]
set_option linter.unusedVariables false
set_option linter.unusedSimpArgs false
set_option maxRecDepth 1000000
theorem own_mapS {w : World} {b : Nat} {s : ByteArray} {v0 : Value} (hs : s.size ≤ maxLen) (h : w.heap[b]? = some (.map #[⟨.string s, v0, 0⟩] 1)) : w.ownsMap Tryz.prog 9 one1 b 1 (.map [(.string s.data.toList, .lit (.bool true))]) := by
  have h1 := rd_one (s := s) (v := v0) (k := 0) hs
  refine ⟨_, _, h, ⟨(by decide : 1 ≤ maxLen), ⟨by simp, by simp, by simp⟩, fun x hx => ?_⟩, Nat.le_refl 1, ?_⟩
  · have : x = ⟨.string s, v0, 0⟩ := by simpa using hx
    exact ⟨_, this ▸ h1⟩
  · simp only [List.map_cons, List.map_nil, WideElems.rg, h1, Option.getD_some, List.foldr_cons, List.foldr_nil]
    rfl
theorem keys322_calls {w : World} (b : Nat) : Calls Tryz.prog 322 #[.map (some b)] w (Is (.func (.func 342) #[] #[.pointer (some ⟨w.heap.size, 0, none⟩)]) (w.alloc (.cells #[.map (some b)] 272))) := callsIn_wide.1 (Tryz.maps_Keys_322 (some b) w)
theorem sorted322_calls {w : World} {b : Nat} {s : ByteArray} {v0 : Value} (hs : s.size ≤ 1000) (h : w.heap[b]? = some (.map #[⟨.string s, v0, 0⟩] 1)) : Calls Tryz.prog 77 #[.func (.func 342) #[] #[.pointer (some ⟨w.heap.size, 0, none⟩)]] (w.alloc (.cells #[.map (some b)] 272)) (KeysP (w.alloc (.cells #[.map (some b)] 272)) #[.string s]) := by
  refine (callsIn_wide.1 (Tryz.slices_Sorted_keys_77_322 b 1 _ one1 w (own_mapS (by unfold maxLen; omega) h) (show 1 ≤ maxLen by decide) (show 1 * 16 ≤ _ by decide))).mono ?_
  rintro e w' ⟨v, ss, rfl, hp, hr, _, hb⟩
  have hp : ss.Perm [s.data.toList] := hp
  have hl : ss.length = 1 := hp.length_eq
  rw [ms1 hp, hl] at hr
  obtain ⟨g, c, rfl, hg, hc, hr⟩ := own_row hr (by decide)
  refine ⟨g, c, rfl, hc, hg, ?_, hb⟩
  simp only [List.map_cons, List.map_nil, encS] at hr
  exact hr
theorem join1_calls {w : World} {a : Addr} {c : Nat} {s : ByteArray} (h : w.cell? a = some (.string s)) : Calls Tryz.prog 321 #[.slice (some a) 1 c, .string ⟨#[47]⟩] w (Is (.string s) w) := by
  go_enter Tryz.func321, Tryz.ntmps321
  go_wp2
  go_ret
  exact ⟨rfl, rfl⟩
def hitC (s : ByteArray) : Array Value := #[.string ⟨#[35]⟩, .string s, .string ⟨#[35]⟩, .int .u8 0, .bool false, .bool false, .int .u8 0, .int .u32 0]
def outO (v : Value) : Obj := .cells #[v] 386
theorem fit389 : (281474976710656 < Builtin.nextslicecap 1 0 * Tryz.t389.bytes) = False := eq_false (by decide)
def TakeHP (w : World) (ob : Nat) (s : ByteArray) (e : Ending) (w' : World) : Prop := ∃ B c, e = .returned (.tuple #[]) ∧ w.heap.size ≤ B ∧ 1 ≤ c ∧ Row1 w' B 389 (hitC s) ∧ w'.heap[ob]? = some (outO (.slice (some ⟨B, 0, none⟩) 1 c)) ∧ Chg (fun k => k = ob) w w'
set_option maxHeartbeats 4000000 in
theorem take1_calls {w : World} {y yn yh ob pb pc : Nat} {s : ByteArray} (hy : w.heap[y]? = some (nodeO yn yh)) (hm : w.heap[yh]? = some (.map #[⟨.string s, keptV, 0⟩] 1)) (ho : w.heap[ob]? = some (outO (.slice none 0 0))) (hp : w.cell? ⟨pb, 0, none⟩ = some (.string ⟨#[35]⟩)) (hs : s.size ≤ 1000) : Calls Tryz.prog 298 #[.pointer (some ⟨y, 0, none⟩), .slice (some ⟨pb, 0, none⟩) 1 pc, .pointer (some ⟨ob, 0, none⟩)] w (TakeHP w ob s) := by
  have HJ := Lib.hid (join1_calls (c := pc) hp)
  have HK := Lib.hid (keys322_calls (w := w) yh)
  have HSO := Lib.hid (sorted322_calls hs hm)
  obtain ⟨n0, n1⟩ := twocell hy
  have HY := Lib.hid hy
  have HM := Lib.hid hm
  have HO := Lib.hid ho
  have hfit := fit389
  unfold KeysP at HSO
  clear hy hm ho hp
  go_enter Tryz.func298, Tryz.ntmps298
  go_upto_region 2 with (first
    | (go_at_call 321; (with_reducible refine HJ.out.mono ?_); rintro e w1 ⟨rfl, hw⟩; have hw := hw.symm; subst hw)
    | (go_at_call 322; (with_reducible refine HK.out.mono ?_); rintro e w1 ⟨rfl, rfl⟩)
    | (go_at_call 77; (with_reducible refine HSO.out.mono ?_); rintro e w2 ⟨kb, kc, rfl, hkc, hkb, hkr, hb⟩; have hkc0 := Row1.cell (show Row1 w2 kb 9 #[.string s] from hkr) 0 (.string s) rfl; have HB2 := Lib.hid (Below.into (bel1 w _) hb); clear hkc hkb hkr hb))
  clear n0 n1 HJ HK HSO
  have HY2 := Lib.hid (blk_below HY.out HB2.out)
  have HM2 := Lib.hid ((HB2.out.block _ (blk_lt HM.out)).trans HM.out)
  have HO2 := Lib.hid (blk_below HO.out HB2.out)
  obtain ⟨n0, n1⟩ := twocell HY2.out
  have hob := HO2.out
  unfold outO at hob
  have o0 := cell1 hob
  have of := blk_frozen hob 0
  clear hob
  refine wp_loop_rounds 2 ?_
  rw [rounds_succ]
  go_upto_region 4 with (fail)
  have hfn : Instr.findNow .string (.string s) [⟨.string s, keptV, 0⟩] 0 = some (some (0, keptV)) := by
    have : (s == s) = true := (MapKept.bytes_beq s s).2 rfl
    simp only [Instr.findNow, Instr.sameNow, this]
  have hlk := look_h0 (w := w2.drew) (mt := 272) (key := .string s) (v := keptV) (i := 0) Tryz.underlying272 Tryz.underlying9 (by simp [MapKept.IsKey]) HM2.out hfn
  clear hfn
  unfold keptV keptC at hlk
  have HO3 := Lib.hid (show ((w2.alloc (Obj.cells #[Value.string { data := #[35] }, Value.string s, Value.string { data := #[35] }, Value.int IntKind.u8 0, Value.bool false, Value.bool false, Value.int IntKind.u8 0, Value.int IntKind.u32 0] 389)).drew).heap[ob]? = some (outO (.slice none 0 0)) from blk_below HO2.out (bel1 w2 (Obj.cells #[Value.string { data := #[35] }, Value.string s, Value.string { data := #[35] }, Value.int IntKind.u8 0, Value.bool false, Value.bool false, Value.int IntKind.u8 0, Value.int IntKind.u32 0] 389)).drew)
  have HO4 := Lib.hid (show (((w2.alloc (Obj.cells #[Value.string { data := #[35] }, Value.string s, Value.string { data := #[35] }, Value.int IntKind.u8 0, Value.bool false, Value.bool false, Value.int IntKind.u8 0, Value.int IntKind.u32 0] 389)).alloc (Obj.cells (#[Value.string { data := #[35] }, Value.string s, Value.string { data := #[35] }, Value.int IntKind.u8 0, Value.bool false, Value.bool false, Value.int IntKind.u8 0, Value.int IntKind.u32 0] ++ (Builtin.zeroCells #[Value.string { data := #[] }, Value.string { data := #[] }, Value.string { data := #[] }, Value.int IntKind.u8 0, Value.bool false, Value.bool false, Value.int IntKind.u8 0, Value.int IntKind.u32 0] (((Question.appendCap 1 0 389).cut (w2.tape (w2.drawn + 1) (Question.appendCap 1 0 389))) - 1))) 389)).drew.drew).heap[ob]? = some (outO (.slice none 0 0)) from blk_below HO2.out (bel_alloc (bel1 w2 (Obj.cells #[Value.string { data := #[35] }, Value.string s, Value.string { data := #[35] }, Value.int IntKind.u8 0, Value.bool false, Value.bool false, Value.int IntKind.u8 0, Value.int IntKind.u32 0] 389))).drew.drew)
  have hob3 := HO3.out
  have hob4 := HO4.out
  unfold outO at hob3 hob4
  have p0 := cell1 hob3
  have q0 := cell1 hob4
  have qf := blk_frozen hob4 0
  clear hob3 hob4
  go_region
  have HCG := Lib.hid (cut_ge 389 (w2.tape (w2.drawn + 1) (Question.appendCap 1 0 389)))
  generalize (Question.appendCap 1 0 389).cut (w2.tape (w2.drawn + 1) (Question.appendCap 1 0 389)) = cc at HCG ⊢ HO4
  have hb2 : Below w2.heap.size w2 ((w2.alloc (Obj.cells #[Value.string { data := #[35] }, Value.string s, Value.string { data := #[35] }, Value.int IntKind.u8 0, Value.bool false, Value.bool false, Value.int IntKind.u8 0, Value.int IntKind.u32 0] 389)).alloc (Obj.cells (#[Value.string { data := #[35] }, Value.string s, Value.string { data := #[35] }, Value.int IntKind.u8 0, Value.bool false, Value.bool false, Value.int IntKind.u8 0, Value.int IntKind.u32 0] ++ (Builtin.zeroCells #[Value.string { data := #[] }, Value.string { data := #[] }, Value.string { data := #[] }, Value.int IntKind.u8 0, Value.bool false, Value.bool false, Value.int IntKind.u8 0, Value.int IntKind.u32 0] (cc - 1))) 389)) := bel_alloc (bel1 w2 (Obj.cells #[Value.string { data := #[35] }, Value.string s, Value.string { data := #[35] }, Value.int IntKind.u8 0, Value.bool false, Value.bool false, Value.int IntKind.u8 0, Value.int IntKind.u32 0] 389))
  have hr2 : Row1 ((w2.alloc (Obj.cells #[Value.string { data := #[35] }, Value.string s, Value.string { data := #[35] }, Value.int IntKind.u8 0, Value.bool false, Value.bool false, Value.int IntKind.u8 0, Value.int IntKind.u32 0] 389)).alloc (Obj.cells (#[Value.string { data := #[35] }, Value.string s, Value.string { data := #[35] }, Value.int IntKind.u8 0, Value.bool false, Value.bool false, Value.int IntKind.u8 0, Value.int IntKind.u32 0] ++ (Builtin.zeroCells #[Value.string { data := #[] }, Value.string { data := #[] }, Value.string { data := #[] }, Value.int IntKind.u8 0, Value.bool false, Value.bool false, Value.int IntKind.u8 0, Value.int IntKind.u32 0] (cc - 1))) 389)) (w2.heap.size + 1) 389 (hitC s) := ⟨(Builtin.zeroCells #[Value.string { data := #[] }, Value.string { data := #[] }, Value.string { data := #[] }, Value.int IntKind.u8 0, Value.bool false, Value.bool false, Value.int IntKind.u8 0, Value.int IntKind.u32 0] (cc - 1)), blk_top (by rw [World.size_alloc])⟩
  have hdd : Below (((w2.alloc (Obj.cells #[Value.string { data := #[35] }, Value.string s, Value.string { data := #[35] }, Value.int IntKind.u8 0, Value.bool false, Value.bool false, Value.int IntKind.u8 0, Value.int IntKind.u32 0] 389)).alloc (Obj.cells (#[Value.string { data := #[35] }, Value.string s, Value.string { data := #[35] }, Value.int IntKind.u8 0, Value.bool false, Value.bool false, Value.int IntKind.u8 0, Value.int IntKind.u32 0] ++ (Builtin.zeroCells #[Value.string { data := #[] }, Value.string { data := #[] }, Value.string { data := #[] }, Value.int IntKind.u8 0, Value.bool false, Value.bool false, Value.int IntKind.u8 0, Value.int IntKind.u32 0] (cc - 1))) 389)).setCell ⟨ob, 0, none⟩ (.slice (some ⟨w2.heap.size + 1, 0, none⟩) 1 cc)).heap.size (((w2.alloc (Obj.cells #[Value.string { data := #[35] }, Value.string s, Value.string { data := #[35] }, Value.int IntKind.u8 0, Value.bool false, Value.bool false, Value.int IntKind.u8 0, Value.int IntKind.u32 0] 389)).alloc (Obj.cells (#[Value.string { data := #[35] }, Value.string s, Value.string { data := #[35] }, Value.int IntKind.u8 0, Value.bool false, Value.bool false, Value.int IntKind.u8 0, Value.int IntKind.u32 0] ++ (Builtin.zeroCells #[Value.string { data := #[] }, Value.string { data := #[] }, Value.string { data := #[] }, Value.int IntKind.u8 0, Value.bool false, Value.bool false, Value.int IntKind.u8 0, Value.int IntKind.u32 0] (cc - 1))) 389)).setCell ⟨ob, 0, none⟩ (.slice (some ⟨w2.heap.size + 1, 0, none⟩) 1 cc)) ((((w2.alloc (Obj.cells #[Value.string { data := #[35] }, Value.string s, Value.string { data := #[35] }, Value.int IntKind.u8 0, Value.bool false, Value.bool false, Value.int IntKind.u8 0, Value.int IntKind.u32 0] 389)).alloc (Obj.cells (#[Value.string { data := #[35] }, Value.string s, Value.string { data := #[35] }, Value.int IntKind.u8 0, Value.bool false, Value.bool false, Value.int IntKind.u8 0, Value.int IntKind.u32 0] ++ (Builtin.zeroCells #[Value.string { data := #[] }, Value.string { data := #[] }, Value.string { data := #[] }, Value.int IntKind.u8 0, Value.bool false, Value.bool false, Value.int IntKind.u8 0, Value.int IntKind.u32 0] (cc - 1))) 389)).setCell ⟨ob, 0, none⟩ (.slice (some ⟨w2.heap.size + 1, 0, none⟩) 1 cc)).drew.drew) := (Below.refl _ _).drew.drew
  have hne : ¬ w2.heap.size + 1 = ob := by have := blk_lt HO2.out; omega
  have HRF := Lib.hid (show Row1 ((((w2.alloc (Obj.cells #[Value.string { data := #[35] }, Value.string s, Value.string { data := #[35] }, Value.int IntKind.u8 0, Value.bool false, Value.bool false, Value.int IntKind.u8 0, Value.int IntKind.u32 0] 389)).alloc (Obj.cells (#[Value.string { data := #[35] }, Value.string s, Value.string { data := #[35] }, Value.int IntKind.u8 0, Value.bool false, Value.bool false, Value.int IntKind.u8 0, Value.int IntKind.u32 0] ++ (Builtin.zeroCells #[Value.string { data := #[] }, Value.string { data := #[] }, Value.string { data := #[] }, Value.int IntKind.u8 0, Value.bool false, Value.bool false, Value.int IntKind.u8 0, Value.int IntKind.u32 0] (cc - 1))) 389)).setCell ⟨ob, 0, none⟩ (.slice (some ⟨w2.heap.size + 1, 0, none⟩) 1 cc)).drew.drew) (w2.heap.size + 1) 389 (hitC s) from (hr2.to (chg_setc' ob 0 _) hne).below hdd)
  have HOF := Lib.hid (show ((((w2.alloc (Obj.cells #[Value.string { data := #[35] }, Value.string s, Value.string { data := #[35] }, Value.int IntKind.u8 0, Value.bool false, Value.bool false, Value.int IntKind.u8 0, Value.int IntKind.u32 0] 389)).alloc (Obj.cells (#[Value.string { data := #[35] }, Value.string s, Value.string { data := #[35] }, Value.int IntKind.u8 0, Value.bool false, Value.bool false, Value.int IntKind.u8 0, Value.int IntKind.u32 0] ++ (Builtin.zeroCells #[Value.string { data := #[] }, Value.string { data := #[] }, Value.string { data := #[] }, Value.int IntKind.u8 0, Value.bool false, Value.bool false, Value.int IntKind.u8 0, Value.int IntKind.u32 0] (cc - 1))) 389)).setCell ⟨ob, 0, none⟩ (.slice (some ⟨w2.heap.size + 1, 0, none⟩) 1 cc)).drew.drew).heap[ob]? = some (outO (.slice (some ⟨w2.heap.size + 1, 0, none⟩) 1 cc)) from blk_below (blk_put (blk_below HO2.out hb2) 0 _ rfl) hdd)
  have HCF := Lib.hid (show Chg (fun k => k = ob) w ((((w2.alloc (Obj.cells #[Value.string { data := #[35] }, Value.string s, Value.string { data := #[35] }, Value.int IntKind.u8 0, Value.bool false, Value.bool false, Value.int IntKind.u8 0, Value.int IntKind.u32 0] 389)).alloc (Obj.cells (#[Value.string { data := #[35] }, Value.string s, Value.string { data := #[35] }, Value.int IntKind.u8 0, Value.bool false, Value.bool false, Value.int IntKind.u8 0, Value.int IntKind.u32 0] ++ (Builtin.zeroCells #[Value.string { data := #[] }, Value.string { data := #[] }, Value.string { data := #[] }, Value.int IntKind.u8 0, Value.bool false, Value.bool false, Value.int IntKind.u8 0, Value.int IntKind.u32 0] (cc - 1))) 389)).setCell ⟨ob, 0, none⟩ (.slice (some ⟨w2.heap.size + 1, 0, none⟩) 1 cc)).drew.drew) from ((Chg.of_below (S := fun k => k = ob) (Below.into HB2.out hb2)).trans (chg_setc' ob 0 _)).below hdd)
  have HSF := Lib.hid (show w.heap.size ≤ w2.heap.size + 1 from Nat.le_succ_of_le HB2.out.size)
  clear hr2 hdd hne hb2 hlk n0 n1 o0 of p0 q0 qf hkc0
  generalize ((((w2.alloc (Obj.cells #[Value.string { data := #[35] }, Value.string s, Value.string { data := #[35] }, Value.int IntKind.u8 0, Value.bool false, Value.bool false, Value.int IntKind.u8 0, Value.int IntKind.u32 0] 389)).alloc (Obj.cells (#[Value.string { data := #[35] }, Value.string s, Value.string { data := #[35] }, Value.int IntKind.u8 0, Value.bool false, Value.bool false, Value.int IntKind.u8 0, Value.int IntKind.u32 0] ++ (Builtin.zeroCells #[Value.string { data := #[] }, Value.string { data := #[] }, Value.string { data := #[] }, Value.int IntKind.u8 0, Value.bool false, Value.bool false, Value.int IntKind.u8 0, Value.int IntKind.u32 0] (cc - 1))) 389)).setCell ⟨ob, 0, none⟩ (.slice (some ⟨w2.heap.size + 1, 0, none⟩) 1 cc)).drew.drew) = Wf at HRF HOF HCF ⊢
  generalize w2.heap.size + 1 = Bf at HRF HOF HSF ⊢
  go_wp2
  rw [rounds_succ]
  go_wp2
  go_end0
  exact ⟨Bf, cc, rfl, HSF.out, HCG.out, HRF.out, HOF.out, HCF.out⟩
theorem len64_0 {w : World} : Calls Tryz.prog 163 #[.int .u64 0] w (Is (.int .i64 0) w) := by
  have h8 : len8 0 = 0 := by decide
  go_enter Tryz.func163, Tryz.ntmps163
  go_wp2_with (go_in)
  go_ret
  exact ⟨rfl, rfl⟩
theorem len64_1 {w : World} : Calls Tryz.prog 163 #[.int .u64 1] w (Is (.int .i64 1) w) := by
  have h8 : len8 1 = 1 := by decide
  go_enter Tryz.func163, Tryz.ntmps163
  go_wp2_with (go_in)
  go_ret
  exact ⟨rfl, rfl⟩
theorem ins_calls {w : World} {A : Option Addr} {c n : Nat} {f : Value} (hn : n ≤ 1) : Calls Tryz.prog 324 #[.slice A n c, .int .i64 0, .int .i64 n, f] w (Is (.tuple #[]) w) := by
  have hd : decide ((1 : Int) < (n : Int)) = false := decide_eq_false (by omega)
  go_enter Tryz.func324, Tryz.ntmps324
  go_upto_region 1 with (fail)
  refine wp_loop_rounds 1 ?_
  rw [rounds_succ]
  go_wp2
  go_end0
  exact ⟨rfl, rfl⟩
theorem pdq_calls {w : World} {A : Option Addr} {c n : Nat} {f : Value} {lim : Int} (hn : n ≤ 1) : Calls Tryz.prog 338 #[.slice A n c, .int .i64 0, .int .i64 n, .int .i64 lim, f] w (Is (.tuple #[]) w) := by
  have hd : decide ((n : Int) ≤ 12) = true := decide_eq_true (by omega)
  have HI := Lib.hid (ins_calls (w := w) (A := A) (c := c) (f := f) hn)
  go_enter Tryz.func338, Tryz.ntmps338
  go_upto_region 2 with (fail)
  refine wp_loop_rounds 1 ?_
  rw [rounds_succ]
  go_wp2_with (first | (go_at_call 324; (with_reducible refine HI.out.mono ?_); rintro e w1 ⟨rfl, hw⟩; have hw := hw.symm; subst hw))
  go_end0
  exact ⟨rfl, rfl⟩
theorem sf0_calls {w : World} {A : Option Addr} {c : Nat} {f : Value} : Calls Tryz.prog 315 #[.slice A 0 c, f] w (Is (.tuple #[]) w) := by
  have HP := Lib.hid (fun lim => show Calls Tryz.prog 338 #[.slice A 0 c, .int .i64 0, .int .i64 0, .int .i64 lim, f] w (Is (.tuple #[]) w) from pdq_calls (w := w) (A := A) (c := c) (n := 0) (f := f) (lim := lim) (by decide))
  have HL := Lib.hid (len64_0 (w := w))
  go_enter Tryz.func315, Tryz.ntmps315
  go_wp2_with (first
    | (go_at_call 163; (with_reducible refine HL.out.mono ?_); rintro e w1 ⟨rfl, hw⟩; have hw := hw.symm; subst hw)
    | (go_at_call 338; (with_reducible refine (HP.out _).mono ?_); rintro e w1 ⟨rfl, hw⟩; have hw := hw.symm; subst hw))
  go_end0
  exact ⟨rfl, rfl⟩
theorem sf1_calls {w : World} {A : Option Addr} {c : Nat} {f : Value} : Calls Tryz.prog 315 #[.slice A 1 c, f] w (Is (.tuple #[]) w) := by
  have HP := Lib.hid (fun lim => show Calls Tryz.prog 338 #[.slice A 1 c, .int .i64 0, .int .i64 1, .int .i64 lim, f] w (Is (.tuple #[]) w) from pdq_calls (w := w) (A := A) (c := c) (n := 1) (f := f) (lim := lim) (by decide))
  have HL := Lib.hid (len64_1 (w := w))
  go_enter Tryz.func315, Tryz.ntmps315
  go_wp2_with (first
    | (go_at_call 163; (with_reducible refine HL.out.mono ?_); rintro e w1 ⟨rfl, hw⟩; have hw := hw.symm; subst hw)
    | (go_at_call 338; (with_reducible refine (HP.out _).mono ?_); rintro e w1 ⟨rfl, hw⟩; have hw := hw.symm; subst hw))
  go_end0
  exact ⟨rfl, rfl⟩
theorem stc_calls {w : World} {A : Option Addr} {c n : Nat} {f : Value} (hn : n ≤ 1) : Calls Tryz.prog 301 #[.slice A n c, .int .i64 n, f] w (Is (.tuple #[]) w) := by
  have hd : decide ((20 : Int) ≤ (n : Int)) = false := decide_eq_false (by omega)
  have hd2 : decide ((20 : Int) < (n : Int)) = false := decide_eq_false (by omega)
  have HI := Lib.hid (ins_calls (w := w) (A := A) (c := c) (f := f) hn)
  go_enter Tryz.func301, Tryz.ntmps301
  go_upto_region 2 with (fail)
  refine wp_loop_rounds 1 ?_
  rw [rounds_succ]
  go_upto_region 7 with (first | (go_at_call 324; (with_reducible refine HI.out.mono ?_); rintro e w1 ⟨rfl, hw⟩; have hw := hw.symm; subst hw))
  refine wp_loop_rounds 1 ?_
  rw [rounds_succ]
  go_wp2
  go_end0
  exact ⟨rfl, rfl⟩
theorem ss_calls {w : World} {A : Option Addr} {c n : Nat} {f : Value} (hn : n ≤ 1) : Calls Tryz.prog 278 #[.slice A n c, f] w (Is (.tuple #[]) w) := by
  have HI := Lib.hid (stc_calls (w := w) (A := A) (c := c) (f := f) hn)
  go_enter Tryz.func278, Tryz.ntmps278
  go_wp2_with (first | (go_at_call 301; (with_reducible refine HI.out.mono ?_); rintro e w1 ⟨rfl, hw⟩; have hw := hw.symm; subst hw))
  go_end0
  exact ⟨rfl, rfl⟩
theorem Chg.cellOf {S : Nat → Prop} {w w' : World} {b i : Nat} {v : Value} (h : Chg S w w') (hc : w.cell? ⟨b, i, none⟩ = some v) (hb : ¬ S b) : w'.cell? ⟨b, i, none⟩ = some v := by
  have hlt := World.block_lt_of_cell? w _ hc
  have he := h.block b hlt hb
  unfold World.cell? at hc ⊢
  rw [he]
  exact hc
theorem str_ne {a b : ByteArray} (h : a ≠ b) : (a == b) = false := by
  cases hq : (a == b) with
  | false => rfl
  | true => exact absurd ((MapKept.bytes_beq a b).1 hq) h
theorem find_other {s t : ByteArray} {v : Value} {k : Nat} (h : s ≠ t) : Instr.findNow .string (.string s) [⟨.string t, v, k⟩] 0 = some none := by
  simp only [Instr.findNow, Instr.sameNow, str_ne h]
theorem fit9 : (281474976710656 < Builtin.nextslicecap 1 0 * Tryz.t9.bytes) = False := eq_false (by decide)
theorem walk0_calls {w : World} {rt nx hs lb lc ob : Nat} {n : ByteArray} (h1 : w.heap[rt]? = some (nodeO nx hs)) (h2 : w.heap[nx]? = some (.map #[] 0)) (hl : w.cell? ⟨lb, 0, none⟩ = some (.string n)) : Calls Tryz.prog 314 #[.pointer (some ⟨rt, 0, none⟩), .slice (some ⟨lb, 0, none⟩) 1 lc, .slice none 0 0, .bool false, .pointer (some ⟨ob, 0, none⟩)] w (RB (.tuple #[]) w) := by
  obtain ⟨n0, n1⟩ := twocell h1
  have l1 := look_m0 (mt := 271) (key := .string ⟨#[35]⟩) (z := .pointer none) Tryz.underlying271 Tryz.underlying9 (by simp [MapKept.IsKey]) (by simp [Tryz.zeroValue209]) h2 rfl
  have l2 := look_m0 (w := w.drew) (mt := 271) (key := .string n) (z := .pointer none) Tryz.underlying271 Tryz.underlying9 (by simp [MapKept.IsKey]) (by simp [Tryz.zeroValue209]) h2 rfl
  have l3 := look_m0 (w := w.drew) (mt := 271) (key := .string ⟨#[43]⟩) (z := .pointer none) Tryz.underlying271 Tryz.underlying9 (by simp [MapKept.IsKey]) (by simp [Tryz.zeroValue209]) h2 rfl
  have HB := Lib.hid (Below.refl w.heap.size w).drew
  clear h1 h2
  go_enter Tryz.func314, Tryz.ntmps314
  go_upto_region 6 with (fail)
  go_region
  go_wp2
  go_end0
  exact ⟨rfl, HB.out⟩
set_option maxHeartbeats 4000000 in
theorem walk1_calls {w : World} {rt nx hs y yn yh lb lc ob : Nat} {n s : ByteArray} (h1 : w.heap[rt]? = some (nodeO nx hs)) (h2 : w.heap[nx]? = some (.map #[⟨.string ⟨#[35]⟩, .pointer (some ⟨y, 0, none⟩), 0⟩] 1)) (hy : w.heap[y]? = some (nodeO yn yh)) (hm : w.heap[yh]? = some (.map #[⟨.string s, keptV, 0⟩] 1)) (ho : w.heap[ob]? = some (outO (.slice none 0 0))) (hl : w.cell? ⟨lb, 0, none⟩ = some (.string n)) (hlo : lb ≠ ob) (hn : NmB n) (h0 : 0 < n.size) (hs' : s.size ≤ 1000) : Calls Tryz.prog 314 #[.pointer (some ⟨rt, 0, none⟩), .slice (some ⟨lb, 0, none⟩) 1 lc, .slice none 0 0, .bool false, .pointer (some ⟨ob, 0, none⟩)] w (TakeHP w ob s) := by
  have hbad : ∀ x : UInt8, ¬ letB x → n ≠ ⟨#[x]⟩ := fun x hx e => by
    subst e
    exact hx (hn x (by show x ∈ [x]; simp))
  have hn1 : n ≠ ⟨#[35]⟩ := hbad 35 (by unfold letB; decide)
  have HN1 := Lib.hid hn1
  have hfit := fit9
  have HNX := Lib.hid h2
  have HRT := Lib.hid h1
  have HY := Lib.hid hy
  have HM := Lib.hid hm
  have HO := Lib.hid ho
  have HL := Lib.hid hl
  have HLO := Lib.hid hlo
  have HS := Lib.hid hs'
  obtain ⟨n0, n1⟩ := twocell h1
  have l1 := look_h0 (mt := 271) (key := .string ⟨#[35]⟩) (v := .pointer (some ⟨y, 0, none⟩)) (i := 0) Tryz.underlying271 Tryz.underlying9 (by simp [MapKept.IsKey]) h2 rfl
  clear h1 h2 hy hm ho hl hlo hn h0 hs' hbad hn1
  go_enter Tryz.func314, Tryz.ntmps314
  go_upto_region 3 with (fail)
  have hb1 : Below w.heap.size w (((w.alloc (Obj.cells #[Value.string { data := #[35] }] 9)).alloc (Obj.cells (#[Value.string { data := #[35] }] ++ Builtin.zeroCells #[Value.string { data := #[] }] (((Question.appendCap 1 0 9).cut (w.tape w.drawn (Question.appendCap 1 0 9))) - 1)) 9)).drew) := (bel_alloc (bel1 w (Obj.cells #[Value.string { data := #[35] }] 9))).drew
  have HB1 := Lib.hid hb1
  have hp1 : (((w.alloc (Obj.cells #[Value.string { data := #[35] }] 9)).alloc (Obj.cells (#[Value.string { data := #[35] }] ++ Builtin.zeroCells #[Value.string { data := #[] }] (((Question.appendCap 1 0 9).cut (w.tape w.drawn (Question.appendCap 1 0 9))) - 1)) 9)).drew).cell? ⟨w.heap.size + 1, 0, none⟩ = some (.string ⟨#[35]⟩) := Row1.cell (e := 9) (cs := #[Value.string { data := #[35] }]) ⟨_, blk_top (w := w.alloc (Obj.cells #[Value.string { data := #[35] }] 9)) (by rw [World.size_alloc])⟩ 0 _ rfl
  have HT := Lib.hid (take1_calls (w := (((w.alloc (Obj.cells #[Value.string { data := #[35] }] 9)).alloc (Obj.cells (#[Value.string { data := #[35] }] ++ Builtin.zeroCells #[Value.string { data := #[] }] (((Question.appendCap 1 0 9).cut (w.tape w.drawn (Question.appendCap 1 0 9))) - 1)) 9)).drew)) (pc := ((Question.appendCap 1 0 9).cut (w.tape w.drawn (Question.appendCap 1 0 9)))) (blk_below HY.out hb1) ((hb1.block _ (blk_lt HM.out)).trans HM.out) (blk_below HO.out hb1) hp1 HS.out)
  clear hb1 hp1
  unfold TakeHP at HT
  go_upto_region 6 with (first
    | (go_at_call 298; (with_reducible refine HT.out.mono ?_); rintro e w2 ⟨B, c, rfl, hB, hc, hr, hob, hch⟩; have HBB := Lib.hid hB; have HCC := Lib.hid hc; have HRR := Lib.hid hr; have HOO := Lib.hid hob; have HC2 := Lib.hid ((Chg.of_below (S := fun k => k = ob) HB1.out).trans hch); clear hB hc hr hob hch))
  have hrt2 := HC2.out.blk HRT.out (blk_ne HRT.out HO.out (by decide))
  have hnx2 := (HC2.out.block _ (blk_lt HNX.out) (fun e => cm_ne HO.out HNX.out e.symm)).trans HNX.out
  have hl2 : w2.cell? ⟨lb, 0, none⟩ = some (.string n) := HC2.out.cellOf HL.out HLO.out
  clear n0 n1 l1 hfit HT
  obtain ⟨n0, n1⟩ := twocell hrt2
  have l2 := look_m0 (w := w2.drew) (mt := 271) (key := .string n) (z := .pointer none) Tryz.underlying271 Tryz.underlying9 (by simp [MapKept.IsKey]) (by simp [Tryz.zeroValue209]) hnx2 (find_other HN1.out)
  have l3 := look_m0 (w := w2.drew) (mt := 271) (key := .string ⟨#[43]⟩) (z := .pointer none) Tryz.underlying271 Tryz.underlying9 (by simp [MapKept.IsKey]) (by simp [Tryz.zeroValue209]) hnx2 (find_other (by decide))
  clear hrt2 hnx2
  go_region
  have HBF := Lib.hid (Below.refl w2.heap.size w2).drew
  go_wp2
  go_end0
  exact ⟨B, c, rfl, Nat.le_trans HB1.out.size HBB.out, HCC.out, HRR.out.below HBF.out, blk_below HOO.out HBF.out, HC2.out.below HBF.out⟩
theorem nm_hid {s : ByteArray} (h : NmB s) : hidB s = false := by
  unfold hidB
  split
  · rename_i h1
    rw [Lib.toList_data, Lib.toList_data, Lib.extract_eq]
    have h2 := Lib.data_getElem? s 0 (by omega)
    cases hq : s.data.toList with
    | nil => rw [hq] at h2; cases h2
    | cons x l =>
      have hx := h x (by rw [hq]; simp)
      show ([x] == [36]) = false
      rcases hx with rfl | rfl | rfl | rfl <;> decide
  · rfl
theorem nm_47 {s : ByteArray} (h : NmB s) : 47 ∉ s.data.toList := fun hm => by rcases h 47 hm with h | h | h | h <;> cases h
theorem hid_calls {w : World} {n : ByteArray} (h : NmB n) : Calls Tryz.prog 35 #[.string n] w (RB (.bool false) w) := by
  have hf := hidden_f n
  rw [nm_hid h] at hf
  refine (topic_Hidden.calls n _ _ hf).mono ?_
  rintro e w' ⟨rfl, hd⟩
  exact ⟨rfl, hd.below⟩
def MatchP (w : World) (s : ByteArray) (e : Ending) (w' : World) : Prop := ∃ B c, e = .returned (.slice (some ⟨B, 0, none⟩) 1 c) ∧ 1 ≤ c ∧ w.heap.size ≤ B ∧ Row1 w' B 389 (hitC s) ∧ Below w.heap.size w w'
set_option maxHeartbeats 4000000 in
theorem match1_calls {w : World} {tp rt nx hs y yn yh : Nat} {n s : ByteArray} (ht : w.heap[tp]? = some (trieO rt 1)) (h1 : w.heap[rt]? = some (nodeO nx hs)) (h2 : w.heap[nx]? = some (.map #[⟨.string ⟨#[35]⟩, .pointer (some ⟨y, 0, none⟩), 0⟩] 1)) (hy : w.heap[y]? = some (nodeO yn yh)) (hm : w.heap[yh]? = some (.map #[⟨.string s, keptV, 0⟩] 1)) (hM : HasM w) (hn : NmB n) (h0 : 0 < n.size) (hz : n.size ≤ 100) (hs' : s.size ≤ 1000) : Calls Tryz.prog 286 #[.pointer (some ⟨tp, 0, none⟩), .string n] w (MatchP w s) := by
  have HL := Lib.hid (fun W hm => levels1_calls n W hm (nm_47 hn) (by omega))
  have HHD := Lib.hid (fun W => hid_calls (w := W) hn)
  have hb1 : Below w.heap.size w ((w.alloc (Obj.cells #[.slice none 0 0] 386)).drew) := (bel1 w (Obj.cells #[.slice none 0 0] 386)).drew
  have HT := Lib.hid (blk_below ht hb1)
  have H1 := Lib.hid (blk_below h1 hb1)
  have H2 := Lib.hid ((hb1.block _ (blk_lt h2)).trans h2)
  have HY := Lib.hid (blk_below hy hb1)
  have HM := Lib.hid ((hb1.block _ (blk_lt hm)).trans hm)
  have HMM := Lib.hid (hM.to hb1)
  have HO := Lib.hid (show ((w.alloc (Obj.cells #[.slice none 0 0] 386)).drew).heap[w.heap.size]? = some (outO (.slice none 0 0)) from heap_alloc_new w _)
  have HB1 := Lib.hid hb1
  have HN := Lib.hid hn
  have HN0 := Lib.hid h0
  have HS := Lib.hid hs'
  have HAL := Lib.hid (Nat.le_refl w.heap.size)
  clear ht h1 h2 hy hm hM hn h0 hz hs' hb1
  go_enter Tryz.func286, Tryz.ntmps286
  go_upto_region 2 with (fail)
  obtain ⟨t0, t1⟩ := twocell HT.out
  go_region_held3 (fun w' => w'.cell? ⟨tp, 0, none⟩ = some (.pointer (some ⟨rt, 0, none⟩))) (first | exact t0 | go_keep) (first
    | (go_at_call 34; (with_reducible refine (HL.out _ HMM.out).mono ?_); rintro e w2 ⟨rfl, rfl⟩; have hb2 := bel1 ((w.alloc (Obj.cells #[.slice none 0 0] 386)).drew) (.cells #[.string n] 9); have HT2 := Lib.hid (blk_below HT.out hb2); have H12 := Lib.hid (blk_below H1.out hb2); have H22 := Lib.hid ((hb2.block _ (blk_lt H2.out)).trans H2.out); have HY2 := Lib.hid (blk_below HY.out hb2); have HM2 := Lib.hid ((hb2.block _ (blk_lt HM.out)).trans HM.out); have HO2 := Lib.hid (blk_below HO.out hb2); have HB2 := Lib.hid (Below.into HB1.out hb2); have HLC := Lib.hid (show (((w.alloc (Obj.cells #[.slice none 0 0] 386)).drew).alloc (.cells #[.string n] 9)).cell? ⟨w.heap.size + 1, 0, none⟩ = some (.string n) from cell1 (blk_top (w := ((w.alloc (Obj.cells #[.slice none 0 0] 386)).drew)) (show w.heap.size + 1 = (w.alloc (Obj.cells #[.slice none 0 0] 386)).heap.size from (World.size_alloc _ _).symm))); clear hb2; clear t0 t1; obtain ⟨t0, t1⟩ := twocell HT2.out)
    | (go_at_call 35; (with_reducible refine (HHD.out _).mono ?_); rintro e w3 ⟨rfl, hb3⟩; have HT3 := Lib.hid (blk_below HT2.out hb3); have H13 := Lib.hid (blk_below H12.out hb3); have H23 := Lib.hid ((hb3.block _ (blk_lt H22.out)).trans H22.out); have HY3 := Lib.hid (blk_below HY2.out hb3); have HM3 := Lib.hid ((hb3.block _ (blk_lt HM2.out)).trans HM2.out); have HO3 := Lib.hid (blk_below HO2.out hb3); have HB3 := Lib.hid (Below.into HB2.out hb3); have HLC3 := Lib.hid ((hb3.cell (World.block_lt_of_cell? _ _ HLC.out)).trans HLC.out); have HW := Lib.hid (walk1_calls (lc := 1) H13.out H23.out HY3.out HM3.out HO3.out HLC3.out (Nat.succ_ne_self _) HN.out HN0.out HS.out); clear hb3; clear t0 t1; obtain ⟨t0, t1⟩ := twocell HT3.out)
    | (go_at_call 314; (with_reducible refine (HW.out).mono ?_); rintro e w4 ⟨B, c, rfl, hBs, hc, hr, hob, hch⟩; have HBB := Lib.hid hBs; have HCC := Lib.hid hc; have HRR := Lib.hid hr; have HOO := Lib.hid hob; have HB4 := Lib.hid (HB3.out.trans (hch.to_below HB3.out.size (fun k hk => hk ▸ HAL.out))); clear t0 t1; obtain ⟨t0, t1⟩ := twocell (hch.blk HT3.out (blk_ne HT3.out HO3.out (by decide))); clear hBs hc hr hob hch))
  clear t0 t1
  have ho := HOO.out
  unfold outO at ho
  have o0 := cell1 ho
  clear ho
  have HSF := Lib.hid (fun f => sf1_calls (w := w4) (A := some ⟨B, 0, none⟩) (c := c) (f := f))
  go_wp2_with (first
    | (go_at_call 315; (with_reducible refine (HSF.out _).mono ?_); rintro e w5 ⟨rfl, hw⟩; have hw := hw.symm; subst hw))
  go_ret
  exact ⟨B, c, rfl, HCC.out, Nat.le_trans HB3.out.size HBB.out, HRR.out, HB4.out⟩
set_option maxHeartbeats 4000000 in
theorem match0_calls {w : World} {tp rt nx hs : Nat} {n : ByteArray} {cnt : Int} (ht : w.heap[tp]? = some (trieO rt cnt)) (h1 : w.heap[rt]? = some (nodeO nx hs)) (h2 : w.heap[nx]? = some (.map #[] 0)) (hM : HasM w) (hn : NmB n) (hz : n.size ≤ 100) : Calls Tryz.prog 286 #[.pointer (some ⟨tp, 0, none⟩), .string n] w (RB (.slice none 0 0) w) := by
  have HL := Lib.hid (fun W hm => levels1_calls n W hm (nm_47 hn) (by omega))
  have HHD := Lib.hid (fun W => hid_calls (w := W) hn)
  have hb1 : Below w.heap.size w ((w.alloc (Obj.cells #[.slice none 0 0] 386)).drew) := (bel1 w (Obj.cells #[.slice none 0 0] 386)).drew
  have HT := Lib.hid (blk_below ht hb1)
  have H1 := Lib.hid (blk_below h1 hb1)
  have H2 := Lib.hid ((hb1.block _ (blk_lt h2)).trans h2)
  have HMM := Lib.hid (hM.to hb1)
  have HO := Lib.hid (show ((w.alloc (Obj.cells #[.slice none 0 0] 386)).drew).heap[w.heap.size]? = some (outO (.slice none 0 0)) from heap_alloc_new w _)
  have HB1 := Lib.hid hb1
  clear ht h1 h2 hM hn hz hb1
  go_enter Tryz.func286, Tryz.ntmps286
  go_upto_region 2 with (fail)
  obtain ⟨t0, t1⟩ := twocell HT.out
  go_region_held3 (fun w' => w'.cell? ⟨tp, 0, none⟩ = some (.pointer (some ⟨rt, 0, none⟩))) (first | exact t0 | go_keep) (first
    | (go_at_call 34; (with_reducible refine (HL.out _ HMM.out).mono ?_); rintro e w2 ⟨rfl, rfl⟩; have hb2 := bel1 ((w.alloc (Obj.cells #[.slice none 0 0] 386)).drew) (.cells #[.string n] 9); have HT2 := Lib.hid (blk_below HT.out hb2); have H12 := Lib.hid (blk_below H1.out hb2); have H22 := Lib.hid ((hb2.block _ (blk_lt H2.out)).trans H2.out); have HO2 := Lib.hid (blk_below HO.out hb2); have HB2 := Lib.hid (Below.into HB1.out hb2); have HLC := Lib.hid (show (((w.alloc (Obj.cells #[.slice none 0 0] 386)).drew).alloc (.cells #[.string n] 9)).cell? ⟨w.heap.size + 1, 0, none⟩ = some (.string n) from cell1 (blk_top (w := ((w.alloc (Obj.cells #[.slice none 0 0] 386)).drew)) (show w.heap.size + 1 = (w.alloc (Obj.cells #[.slice none 0 0] 386)).heap.size from (World.size_alloc _ _).symm))); clear hb2; clear t0 t1; obtain ⟨t0, t1⟩ := twocell HT2.out)
    | (go_at_call 35; (with_reducible refine (HHD.out _).mono ?_); rintro e w3 ⟨rfl, hb3⟩; have HT3 := Lib.hid (blk_below HT2.out hb3); have H13 := Lib.hid (blk_below H12.out hb3); have H23 := Lib.hid ((hb3.block _ (blk_lt H22.out)).trans H22.out); have HO3 := Lib.hid (blk_below HO2.out hb3); have HB3 := Lib.hid (Below.into HB2.out hb3); have HLC3 := Lib.hid ((hb3.cell (World.block_lt_of_cell? _ _ HLC.out)).trans HLC.out); have HW := Lib.hid (walk0_calls (lc := 1) (ob := w.heap.size) H13.out H23.out HLC3.out); clear hb3; clear t0 t1; obtain ⟨t0, t1⟩ := twocell HT3.out)
    | (go_at_call 314; (with_reducible refine (HW.out).mono ?_); rintro e w4 ⟨rfl, hb4⟩; have HO4 := Lib.hid (blk_below HO3.out hb4); have HB4 := Lib.hid (Below.into HB3.out hb4); clear t0 t1; obtain ⟨t0, t1⟩ := twocell (blk_below HT3.out hb4); clear hb4))
  clear t0 t1
  have ho := HO4.out
  unfold outO at ho
  have o0 := cell1 ho
  clear ho
  have HSF := Lib.hid (fun f => sf0_calls (w := w4) (A := none) (c := 0) (f := f))
  go_wp2_with (first
    | (go_at_call 315; (with_reducible refine (HSF.out _).mono ?_); rintro e w5 ⟨rfl, hw⟩; have hw := hw.symm; subst hw))
  go_ret
  exact ⟨rfl, HB4.out⟩
end Go.Proofs.YtbfgpkogginmjaaGreatDoor
end

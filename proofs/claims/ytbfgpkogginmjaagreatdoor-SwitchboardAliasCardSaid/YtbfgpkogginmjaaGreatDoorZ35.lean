/- Parts of a proof about aliases: E6. -/
import Derived.Test.YtbfgpkogginmjaaGreatDoorZ33
import Derived.Test.YtbfgpkogginmjaaGreatDoorZ34
section
namespace Go.Proofs.YtbfgpkogginmjaaGreatDoor
open Go.RowKit Go.Lib Go.Proofs.YtbfgpkogginmjaaGreatDoorW.PrintWords Go.Proofs.YtbfgpkogginmjaaGreatDoor.PSwitchboardGreat
set_option linter.unusedSectionVars false
variable [LawBase]
set_option linter.unusedVariables false
set_option linter.unusedSimpArgs false
set_option maxRecDepth 1000000
set_option maxHeartbeats 1600000
def tabO (am : Nat) : Obj := .cells #[.map (some am), .int .u32 9] 172
theorem anew_calls {w : World} : Calls Tryz.prog 38 #[.int .u32 9] w (Ist (.pointer (some ⟨w.heap.size + 1, 0, none⟩)) ((w.alloc (.map #[] 0)).alloc (.cells #[.map (some w.heap.size), .int .u32 9] 172))) := by
  have hmm := @run_makeMap Tryz.prog
  go_enter Tryz.func38, Tryz.ntmps38
  go_wp2
  go_ret
  exact ⟨rfl, rfl⟩
def OpenP (L : List (Nat × Obj)) (i5 i2 nm k5 kL : Nat) (lo : Nat → Nat) (es5 esL : Array MapEntry) (c : Int) (e : Ending) (w' : World) : Prop := ∃ ci rd am tb l : Nat, e = .returned (.int .i64 0) ∧ Held w' (((L.set i5 (nm, .map (es5.push ⟨.int .i64 c, .pointer (some ⟨ci, 0, none⟩), k5⟩) (k5 + 1))).set i2 (lo 2, .map (esL.push ⟨.int .i64 c, .pointer (some ⟨l, 0, none⟩), kL⟩) (kL + 1))) ++ [(ci, connO ⟨#[]⟩ 0 ⟨#[]⟩), (rd, rdO ⟨#[]⟩), (am, amO []), (tb, tabO am), (l, linO c rd tb ⟨#[]⟩ false)])
theorem open_calls {w : World} {L : List (Nat × Obj)} {hb nm k5 kL i0 i2 i4 i5 : Nat} {lo : Nat → Nat} {es5 esL : Array MapEntry} {c : Int} (H : Held w L) (h0 : L[i0]? = some (hb, brO lo)) (h2 : L[i2]? = some (lo 2, .map esL kL)) (hf2 : Instr.findNow (.int .i64) (.int .i64 c) esL.toList 0 = some none) (h4 : L[i4]? = some (lo 1 + 1, netO nm)) (h5 : L[i5]? = some (nm, .map es5 k5)) (hf5 : Instr.findNow (.int .i64) (.int .i64 c) es5.toList 0 = some none) (h25 : i5 ≠ i2) : Calls Tryz.prog 20 #[.pointer (some ⟨hb, 0, none⟩), .int .i64 c] w (OpenP L i5 i2 nm k5 kL lo es5 esL c) := by
  have HPO := Lib.hid (popen_calls (c := c) (H.get i4 h4) (H.get i5 h5) hf5)
  obtain ⟨b5, b6, b7, b8, b9, b10, b11, b12, b13, b3, b4, b1, b0⟩ := brcells (H.get i0 h0)
  clear b7 b8 b9 b10 b11 b12 b13 b1 b0
  have hx0 : i5 ≠ i0 := idx_obj h5 h0 (by intro h; cases h)
  have hl5 : i5 < L.length := (List.getElem?_eq_some_iff.1 h5).1
  have hh0 : Held (w.alloc conn0) (L ++ [(w.heap.size, connO ⟨#[]⟩ 0 ⟨#[]⟩)]) := H.alloc conn0 rfl
  have hh1 : Held (ChangeMaps.setBlock (w.alloc conn0) nm (Obj.map (es5.push ⟨.int .i64 c, .pointer (some ⟨w.heap.size, 0, none⟩), k5⟩) (k5 + 1))) ((L.set i5 (nm, (Obj.map (es5.push ⟨.int .i64 c, .pointer (some ⟨w.heap.size, 0, none⟩), k5⟩) (k5 + 1)))) ++ [(w.heap.size, connO ⟨#[]⟩ 0 ⟨#[]⟩)]) := by
    have h := hh0.set i5 (app_get h5) (setB_chg _ _ (Obj.map (es5.push ⟨.int .i64 c, .pointer (some ⟨w.heap.size, 0, none⟩), k5⟩) (k5 + 1))) (setB_at _ (hh0.get i5 (app_get h5)))
    rw [set_app hl5] at h
    exact h
  have HH := Lib.hid hh1
  have HI0 := Lib.hid (show (L.set i5 (nm, (Obj.map (es5.push ⟨.int .i64 c, .pointer (some ⟨w.heap.size, 0, none⟩), k5⟩) (k5 + 1))))[i0]? = some (hb, brO lo) from set_other h0 hx0)
  have HI2 := Lib.hid (show (L.set i5 (nm, (Obj.map (es5.push ⟨.int .i64 c, .pointer (some ⟨w.heap.size, 0, none⟩), k5⟩) (k5 + 1))))[i2]? = some (lo 2, .map esL kL) from set_other h2 h25)
  have HF2 := Lib.hid hf2
  have HRN := Lib.hid (fun W => new_rd (w := W) 2000)
  have HAN := Lib.hid (fun W => anew_calls (w := W))
  have HX := Lib.hid (show i2 ≠ i0 from idx_obj h2 h0 (by intro h; cases h))
  clear H h0 h2 hf2 h4 h5 hf5 hx0 hh0 hh1 hl5 h25
  go_enter Tryz.func20, Tryz.ntmps20
  go_upto_region 3 with (first
    | (go_at_call 36; (with_reducible refine HPO.out.mono ?_); rintro e w1 ⟨rfl, rfl⟩))
  obtain ⟨L5, HL5⟩ : ∃ L5, Hid (L5 = L.set i5 (nm, (Obj.map (es5.push ⟨.int .i64 c, .pointer (some ⟨w.heap.size, 0, none⟩), k5⟩) (k5 + 1)))) := ⟨_, Lib.hid rfl⟩
  rw [← HL5.out] at HH HI0 HI2
  clear b5 b6 b3 b4 HPO
  obtain ⟨ci, HCI⟩ : ∃ a, Hid (a = w.heap.size) := ⟨_, Lib.hid rfl⟩
  generalize (ChangeMaps.setBlock (w.alloc conn0) nm (Obj.map (es5.push ⟨.int .i64 c, .pointer (some ⟨w.heap.size, 0, none⟩), k5⟩) (k5 + 1))) = X at HH ⊢
  rw [← HCI.out] at HL5 HH
  obtain ⟨b5, b6, b7, b8, b9, b10, b11, b12, b13, b3, b4, b1, b0⟩ := brcells (HH.out.get i0 (app_get HI0.out))
  clear b5 b7 b8 b9 b10 b11 b12 b13 b1 b0
  have HD := Lib.hid (HH.out.below (Below.refl X.heap.size X).drew)
  go_region_held3 (fun w' => w'.cell? ⟨hb, 6, none⟩ = some (.map (some (lo 2))) ∧ w'.cell? ⟨hb, 3, none⟩ = some (.int .i64 2000) ∧ w'.cell? ⟨hb, 4, none⟩ = some (.int .u32 9)) (first | exact ⟨b6, b3, b4⟩ | exact ⟨d6, d3, d4⟩ | exact ⟨e6, e3, e4⟩ | exact ⟨f6, f3, f4⟩ | exact ⟨g6, g3, g4⟩ | go_keep) (first
    | (go_at_call 37; (with_reducible refine (HRN.out _).mono ?_); rintro e w2 ⟨g, rfl, hr, hg, hb2⟩; have HH2 := Lib.hid (HD.out.push (o := rdO ⟨#[]⟩) hb2 hg hr); obtain ⟨d5, d6, d7, d8, d9, d10, d11, d12, d13, d3, d4, d1, d0⟩ := brcells (HH2.out.get i0 (app_get (app_get HI0.out))); clear hr hg hb2 d5 d7 d8 d9 d10 d11 d12 d13 d1 d0)
    | (go_at_call 38; (with_reducible refine (HAN.out _).mono ?_); rintro e w3 ⟨rfl, rfl⟩; have HH3 := Lib.hid (show Held ((w2.alloc (Obj.map #[] 0)).alloc (Obj.cells #[.map (some w2.heap.size), .int .u32 9] 172)) _ from (HH2.out.alloc (Obj.map #[] 0) rfl).alloc (Obj.cells #[.map (some w2.heap.size), .int .u32 9] 172) rfl); obtain ⟨e5, e6, e7, e8, e9, e10, e11, e12, e13, e3, e4, e1, e0⟩ := brcells (HH3.out.get i0 (app_get (app_get (app_get (app_get HI0.out))))); have HH4 := Lib.hid (show Held (((w2.alloc (Obj.map #[] 0)).alloc (Obj.cells #[.map (some w2.heap.size), .int .u32 9] 172)).alloc (Obj.cells #[.int .i64 c, .pointer (some ⟨g, 0, none⟩), .pointer (some ⟨w2.heap.size + 1, 0, none⟩), .string ⟨#[]⟩, .bool false, .int .i64 0] 126)) (L5 ++ [(ci, connO ⟨#[]⟩ 0 ⟨#[]⟩), (g, rdO ⟨#[]⟩), (w2.heap.size, (Obj.map #[] 0)), (w2.heap.size + 1, tabO w2.heap.size), (w2.heap.size + 2, linO c g (w2.heap.size + 1) ⟨#[]⟩ false)]) from by have h := (HH2.out.alloc (Obj.map #[] 0) rfl).alloc (Obj.cells #[.map (some w2.heap.size), .int .u32 9] 172) rfl |>.alloc (Obj.cells #[.int .i64 c, .pointer (some ⟨g, 0, none⟩), .pointer (some ⟨w2.heap.size + 1, 0, none⟩), .string ⟨#[]⟩, .bool false, .int .i64 0] 126) rfl; simp only [List.append_assoc, List.cons_append, List.nil_append, World.size_alloc] at h; exact h); obtain ⟨f5, f6, f7, f8, f9, f10, f11, f12, f13, f3, f4, f1, f0⟩ := brcells (HH4.out.get i0 (app_get HI0.out)); have hp := put_new (w := (((w2.alloc (Obj.map #[] 0)).alloc (Obj.cells #[.map (some w2.heap.size), .int .u32 9] 172)).alloc (Obj.cells #[.int .i64 c, .pointer (some ⟨g, 0, none⟩), .pointer (some ⟨w2.heap.size + 1, 0, none⟩), .string ⟨#[]⟩, .bool false, .int .i64 0] 126))) (mt := 99) (key := .int .i64 c) (v := .pointer (some ⟨w2.heap.size + 2, 0, none⟩)) Tryz.underlying99 Tryz.underlying3 (by simp [MapKept.IsKey]) (HH4.out.get i2 (app_get HI2.out)) HF2.out; have HH5 := Lib.hid (show Held (ChangeMaps.setBlock (((w2.alloc (Obj.map #[] 0)).alloc (Obj.cells #[.map (some w2.heap.size), .int .u32 9] 172)).alloc (Obj.cells #[.int .i64 c, .pointer (some ⟨g, 0, none⟩), .pointer (some ⟨w2.heap.size + 1, 0, none⟩), .string ⟨#[]⟩, .bool false, .int .i64 0] 126)) (lo 2) (Obj.map (esL.push ⟨.int .i64 c, .pointer (some ⟨w2.heap.size + 2, 0, none⟩), kL⟩) (kL + 1))) ((L5 ++ [(ci, connO ⟨#[]⟩ 0 ⟨#[]⟩), (g, rdO ⟨#[]⟩), (w2.heap.size, (Obj.map #[] 0)), (w2.heap.size + 1, tabO w2.heap.size), (w2.heap.size + 2, linO c g (w2.heap.size + 1) ⟨#[]⟩ false)]).set i2 (lo 2, (Obj.map (esL.push ⟨.int .i64 c, .pointer (some ⟨w2.heap.size + 2, 0, none⟩), kL⟩) (kL + 1)))) from HH4.out.set i2 (app_get HI2.out) (setB_chg _ _ (Obj.map (esL.push ⟨.int .i64 c, .pointer (some ⟨w2.heap.size + 2, 0, none⟩), kL⟩) (kL + 1))) (setB_at _ (HH4.out.get i2 (app_get HI2.out)))); obtain ⟨g5, g6, g7, g8, g9, g10, g11, g12, g13, g3, g4, g1, g0⟩ := brcells (HH5.out.get i0 (set_other (app_get HI0.out) HX.out)); clear e5 e7 e8 e9 e10 e11 e12 e13 e1 e0 f5 f7 f8 f9 f10 f11 f12 f13 f1 f0 g5 g7 g8 g9 g10 g11 g12 g13 g1 g0))
  clear b6 b3 b4 d6 d3 d4 e6 e3 e4 f6 f3 f4 g6 g3 g4 hp
  have HL2 := Lib.hid (show i2 < L5.length from (List.getElem?_eq_some_iff.1 HI2.out).1)
  have HFIN := Lib.hid (show Held (ChangeMaps.setBlock (((w2.alloc (Obj.map #[] 0)).alloc (Obj.cells #[.map (some w2.heap.size), .int .u32 9] 172)).alloc (Obj.cells #[.int .i64 c, .pointer (some ⟨g, 0, none⟩), .pointer (some ⟨w2.heap.size + 1, 0, none⟩), .string ⟨#[]⟩, .bool false, .int .i64 0] 126)) (lo 2) (Obj.map (esL.push ⟨.int .i64 c, .pointer (some ⟨w2.heap.size + 2, 0, none⟩), kL⟩) (kL + 1))) ((L5.set i2 (lo 2, (Obj.map (esL.push ⟨.int .i64 c, .pointer (some ⟨w2.heap.size + 2, 0, none⟩), kL⟩) (kL + 1)))) ++ [(ci, connO ⟨#[]⟩ 0 ⟨#[]⟩), (g, rdO ⟨#[]⟩), (w2.heap.size, (Obj.map #[] 0)), (w2.heap.size + 1, tabO w2.heap.size), (w2.heap.size + 2, linO c g (w2.heap.size + 1) ⟨#[]⟩ false)]) from by have h := HH5.out; rw [set_app HL2.out] at h; exact h)
  generalize (ChangeMaps.setBlock (((w2.alloc (Obj.map #[] 0)).alloc (Obj.cells #[.map (some w2.heap.size), .int .u32 9] 172)).alloc (Obj.cells #[.int .i64 c, .pointer (some ⟨g, 0, none⟩), .pointer (some ⟨w2.heap.size + 1, 0, none⟩), .string ⟨#[]⟩, .bool false, .int .i64 0] 126)) (lo 2) (Obj.map (esL.push ⟨.int .i64 c, .pointer (some ⟨w2.heap.size + 2, 0, none⟩), kL⟩) (kL + 1))) = XF at HFIN ⊢
  clear HH5 HH4 HH3 HH2 HD HH
  go_wp2
  go_ret
  refine ⟨ci, g, w2.heap.size, w2.heap.size + 1, w2.heap.size + 2, rfl, ?_⟩
  have h := HFIN.out
  rw [HL5.out] at h
  exact h
end Go.Proofs.YtbfgpkogginmjaaGreatDoor
end

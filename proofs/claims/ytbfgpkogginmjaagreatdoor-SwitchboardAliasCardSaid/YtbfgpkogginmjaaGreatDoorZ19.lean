/- Parts of a proof about aliases: T3. -/
import Derived.Test.YtbfgpkogginmjaaGreatDoorZ13
import Derived.Test.YtbfgpkogginmjaaGreatDoorZ17
import Derived.Test.YtbfgpkogginmjaaGreatDoorZ18
section
namespace Go.Proofs.YtbfgpkogginmjaaGreatDoor
open Go.RowKit Go.Lib Go.Proofs.YtbfgpkogginmjaaGreatDoorW.PrintWords Go.Proofs.YtbfgpkogginmjaaGreatDoor.PSwitchboardGreat
set_option linter.unusedSectionVars false
variable [LawBase]
set_option linter.unusedVariables false
set_option linter.unusedSimpArgs false
set_option maxRecDepth 1000000
def keptC : Array Value := #[.string ⟨#[35]⟩, .int .u8 0, .bool false, .bool false, .int .u8 0, .int .u32 0]
def keptV : Value := .agg keptC
def kept0 : Value := .agg #[.string ⟨#[]⟩, .int .u8 0, .bool false, .bool false, .int .u8 0, .int .u32 0]
def trieO (rt : Nat) (n : Int) : Obj := .cells #[.pointer (some ⟨rt, 0, none⟩), .int .i64 n] 212
def nodeO (nx hs : Nat) : Obj := .cells #[.map (some nx), .map (some hs)] 274
theorem frnew2_calls {w : World} : Calls Tryz.prog 88 #[] w (Ist (.pointer (some ⟨w.heap.size + 2, 0, none⟩)) (frnewW w)) := by
  refine (frnew_calls (w := w)).mono ?_
  rintro e w' ⟨rfl, rfl⟩
  refine ⟨?_, rfl⟩
  have : (frnewW w).heap.size - 1 = w.heap.size + 2 := by simp [frnewW]
  rw [this]
theorem frn_held {w : World} {L : List (Nat × Obj)} (h : Held w L) : Held (frnewW w) (L ++ [(w.heap.size, .map #[] 0), (w.heap.size + 1, .map #[] 0), (w.heap.size + 2, nodeO w.heap.size (w.heap.size + 1))]) := by
  have h1 := h.alloc (.map #[] 0) rfl
  have h2 := h1.alloc (.map #[] 0) rfl
  have h3 := h2.alloc (nodeO w.heap.size (w.heap.size + 1)) rfl
  simp only [List.append_assoc, List.cons_append, List.nil_append, World.size_alloc] at h3
  exact h3
theorem frn_below (w : World) : Below w.heap.size w (frnewW w) := bel_alloc (bel_alloc (bel1 w _))
theorem cm_ne {w : World} {a b k : Nat} {c : Array Value} {t : TypeId} {fz : Nat × Nat} {es : Array MapEntry} (h : w.heap[a]? = some (.cells c t fz)) (h' : w.heap[b]? = some (.map es k)) : a ≠ b := fun e => by
  rw [e, h'] at h
  cases h
theorem app_new {L : List (Nat × Obj)} {x : Nat × Obj} {M : List (Nat × Obj)} {n : Nat} (j : Nat) (hn : L.length = n) (h : M[j]? = some x) : (L ++ M)[n + j]? = some x := by
  rw [List.getElem?_append_right (by omega), ← hn, Nat.add_sub_cancel_left]
  exact h
theorem set_app {L M : List (Nat × Obj)} {x : Nat × Obj} {i : Nat} (h : i < L.length) : (L ++ M).set i x = L.set i x ++ M := by
  rw [List.set_append_left _ _ h]
def PutPX (L : List (Nat × Obj)) (i2 i0 tp rt nx : Nat) (s : ByteArray) (e : Ending) (w' : World) : Prop := ∃ a : Nat, e = .returned (.bool false) ∧ Held w' (((L.set i2 (nx, .map #[⟨.string ⟨#[35]⟩, .pointer (some ⟨a + 2, 0, none⟩), 0⟩] 1)).set i0 (tp, trieO rt 1)) ++ [(a, .map #[] 0), (a + 1, .map #[⟨.string s, keptV, 0⟩] 1), (a + 2, nodeO a (a + 1))])
set_option maxHeartbeats 4000000 in
theorem put_hash {w : World} {L : List (Nat × Obj)} {tp rt nx hs : Nat} {s : ByteArray} (H : Held w L) (hm : HasM w) {i0 i1 i2 : Nat} (h0 : L[i0]? = some (tp, trieO rt 0)) (h1 : L[i1]? = some (rt, nodeO nx hs)) (h2 : L[i2]? = some (nx, .map #[] 0)) (hss : s.size ≤ 1000) : Calls Tryz.prog 202 #[.pointer (some ⟨tp, 0, none⟩), .string ⟨#[35]⟩, .string s, keptV] w (PutPX L i2 i0 tp rt nx s) := by
  have HL := Lib.hid (fun W hm => levels1_calls ⟨#[35]⟩ W hm (by decide) (by decide))
  have HFR := Lib.hid (fun W => frnew2_calls (w := W))
  unfold keptV keptC
  have HK0 := Lib.hid (show (w.alloc (Obj.cells #[.string ⟨#[35]⟩, .int .u8 0, .bool false, .bool false, .int .u8 0, .int .u32 0] 147)).heap[w.heap.size]? = some (Obj.cells #[.string ⟨#[35]⟩, .int .u8 0, .bool false, .bool false, .int .u8 0, .int .u32 0] 147) from heap_alloc_new w _)
  have HH0 := Lib.hid (H.below (bel1 w (Obj.cells #[.string ⟨#[35]⟩, .int .u8 0, .bool false, .bool false, .int .u8 0, .int .u32 0] 147)))
  have HM0 := Lib.hid (hm.to (bel1 w (Obj.cells #[.string ⟨#[35]⟩, .int .u8 0, .bool false, .bool false, .int .u8 0, .int .u32 0] 147)))
  have HI0 := Lib.hid h0
  have HI1 := Lib.hid h1
  have HI2 := Lib.hid h2
  clear H hm h0 h1 h2
  have h12 : i2 ≠ i1 := fun e => by
    have h1 := HI1.out
    have h2 := HI2.out
    rw [← e, h2] at h1
    simp [nodeO] at h1
  have h02 : i2 ≠ i0 := fun e => by
    have h1 := HI0.out
    have h2 := HI2.out
    rw [← e, h2] at h1
    simp [trieO] at h1
  have HN2 := Lib.hid (show i2 ≠ i1 ∧ i2 ≠ i0 from ⟨h12, h02⟩)
  clear h12 h02
  go_enter Tryz.func202, Tryz.ntmps202
  go_upto_region 1 with (fail)
  generalize w.alloc (Obj.cells #[.string ⟨#[35]⟩, .int .u8 0, .bool false, .bool false, .int .u8 0, .int .u32 0] 147) = W0 at HK0 HH0 HM0 ⊢
  obtain ⟨t0, t1⟩ := twocell (HH0.out.get i0 HI0.out)
  go_upto_region 3 with (first
    | (go_at_call 34; (with_reducible refine (HL.out _ HM0.out).mono ?_); rintro e w1 ⟨rfl, rfl⟩))
  have HH1 := Lib.hid (HH0.out.below (bel1 W0 (Obj.cells #[.string ⟨#[35]⟩] 9)))
  have HK1 := Lib.hid (blk_below HK0.out (bel1 W0 (Obj.cells #[.string ⟨#[35]⟩] 9)))
  have hc := cell1 (show (W0.alloc (Obj.cells #[.string ⟨#[35]⟩] 9)).heap[W0.heap.size]? = some (.cells #[.string ⟨#[35]⟩] 9 (0, 0)) from heap_alloc_new W0 _)
  generalize W0.alloc (Obj.cells #[.string ⟨#[35]⟩] 9) = W1 at HH1 HK1 hc ⊢
  generalize W0.heap.size = r0 at hc ⊢
  clear t0 t1 HH0 HM0 HL HK0
  obtain ⟨n0, n1⟩ := twocell (HH1.out.get i1 HI1.out)
  have hl := look_miss (mt := 271) (key := .string ⟨#[35]⟩) (z := .pointer none) Tryz.underlying271 Tryz.underlying9 (by simp [MapKept.IsKey]) (by simp [Tryz.zeroValue209]) (HH1.out.get i2 HI2.out) rfl false
  refine wp_loop_rounds 2 ?_
  rw [rounds_succ]
  go_upto_region 6 with (fail)
  have HH2 := Lib.hid (HH1.out.below (Below.refl W1.heap.size W1).drew)
  have HK2 := Lib.hid (blk_below HK1.out (Below.refl W1.heap.size W1).drew)
  have hc2 : W1.drew.cell? ⟨r0, 0, none⟩ = some (.string ⟨#[35]⟩) := hc
  clear hc
  go_region_held3 (fun w' => w'.cell? ⟨rt, 0, none⟩ = some (.map (some nx))) (first | exact n0 | exact m0 | go_keep) (first
    | (go_at_call 88; (with_reducible refine (HFR.out _).mono ?_); rintro e w3 ⟨rfl, rfl⟩; have HH3 := Lib.hid (show Held (frnewW W1.drew) (L ++ [(W1.heap.size, .map #[] 0), (W1.heap.size + 1, .map #[] 0), (W1.heap.size + 2, nodeO W1.heap.size (W1.heap.size + 1))]) from frn_held HH2.out); have hc3 := ((frn_below W1.drew).cell (World.block_lt_of_cell? W1.drew _ hc2)).trans hc2; have HK3 := Lib.hid (blk_below HK2.out (frn_below _)); clear n0 n1; obtain ⟨n0, n1⟩ := twocell (HH3.out.get i1 (app_get HI1.out)); have hp := put_new (w := (frnewW W1.drew)) (mt := 271) (key := .string ⟨#[35]⟩) (v := .pointer (some ⟨W1.heap.size + 2, 0, none⟩)) Tryz.underlying271 Tryz.underlying9 (by simp [MapKept.IsKey]) (HH3.out.get i2 (app_get HI2.out)) rfl; have HH4 := Lib.hid (show Held (ChangeMaps.setBlock (frnewW W1.drew) nx (Obj.map #[⟨.string ⟨#[35]⟩, .pointer (some ⟨W1.heap.size + 2, 0, none⟩), 0⟩] 1)) ((L ++ [(W1.heap.size, .map #[] 0), (W1.heap.size + 1, .map #[] 0), (W1.heap.size + 2, nodeO W1.heap.size (W1.heap.size + 1))]).set i2 (nx, (Obj.map #[⟨.string ⟨#[35]⟩, .pointer (some ⟨W1.heap.size + 2, 0, none⟩), 0⟩] 1))) from HH3.out.set i2 (app_get HI2.out) (setB_chg _ _ _) (setB_at _ (HH3.out.get i2 (app_get HI2.out)))); obtain ⟨m0, m1⟩ := twocell (HH4.out.get i1 (set_other (app_get HI1.out) HN2.out.1))))
  clear n0 n1 m0 m1 hp hc2
  have HL2 := Lib.hid (show i2 < L.length from (List.getElem?_eq_some_iff.1 HI2.out).1)
  have HL0 := Lib.hid (show i0 < L.length from (List.getElem?_eq_some_iff.1 HI0.out).1)
  have HK4 := Lib.hid (show (ChangeMaps.setBlock (frnewW W1.drew) nx (Obj.map #[⟨.string ⟨#[35]⟩, .pointer (some ⟨W1.heap.size + 2, 0, none⟩), 0⟩] 1)).heap[w.heap.size]? = some (Obj.cells #[.string ⟨#[35]⟩, .int .u8 0, .bool false, .bool false, .int .u8 0, .int .u32 0] 147) from (setB_chg _ _ _).blk HK3.out (cm_ne HK3.out (HH3.out.get i2 (app_get HI2.out))))
  generalize (ChangeMaps.setBlock (frnewW W1.drew) nx (Obj.map #[⟨.string ⟨#[35]⟩, .pointer (some ⟨W1.heap.size + 2, 0, none⟩), 0⟩] 1)) = X at HH4 HK4 ⊢
  clear HK3 HH3 hc3 HH2 HK2 HH1 HK1
  generalize W1.heap.size = a3 at HH4 ⊢
  have HH5 := Lib.hid (show Held X ((L.set i2 (nx, (Obj.map #[⟨.string ⟨#[35]⟩, .pointer (some ⟨a3 + 2, 0, none⟩), 0⟩] 1))) ++ [(a3, Obj.map #[] 0), (a3 + 1, Obj.map #[] 0), (a3 + 2, nodeO a3 (a3 + 1))]) by have h := HH4.out; rw [set_app HL2.out] at h; exact h)
  generalize w.heap.size = kb at HK4 ⊢
  clear HH4
  have HJ1 := Lib.hid (show ((L.set i2 (nx, (Obj.map #[⟨.string ⟨#[35]⟩, .pointer (some ⟨a3 + 2, 0, none⟩), 0⟩] 1))) ++ [(a3, Obj.map #[] 0), (a3 + 1, Obj.map #[] 0), (a3 + 2, nodeO a3 (a3 + 1))])[i1]? = some (rt, nodeO nx hs) from app_get (set_other HI1.out HN2.out.1))
  have HJ2 := Lib.hid (show ((L.set i2 (nx, (Obj.map #[⟨.string ⟨#[35]⟩, .pointer (some ⟨a3 + 2, 0, none⟩), 0⟩] 1))) ++ [(a3, Obj.map #[] 0), (a3 + 1, Obj.map #[] 0), (a3 + 2, nodeO a3 (a3 + 1))])[i2]? = some (nx, (Obj.map #[⟨.string ⟨#[35]⟩, .pointer (some ⟨a3 + 2, 0, none⟩), 0⟩] 1)) from app_get (List.getElem?_set_self HL2.out))
  have HJ0 := Lib.hid (show ((L.set i2 (nx, (Obj.map #[⟨.string ⟨#[35]⟩, .pointer (some ⟨a3 + 2, 0, none⟩), 0⟩] 1))) ++ [(a3, Obj.map #[] 0), (a3 + 1, Obj.map #[] 0), (a3 + 2, nodeO a3 (a3 + 1))])[i0]? = some (tp, trieO rt 0) from app_get (set_other HI0.out HN2.out.2))
  have HJa := Lib.hid (show ((L.set i2 (nx, (Obj.map #[⟨.string ⟨#[35]⟩, .pointer (some ⟨a3 + 2, 0, none⟩), 0⟩] 1))) ++ [(a3, Obj.map #[] 0), (a3 + 1, Obj.map #[] 0), (a3 + 2, nodeO a3 (a3 + 1))])[L.length + 1]? = some (a3 + 1, Obj.map #[] 0) from app_new 1 (List.length_set ..) rfl)
  have HJb := Lib.hid (show ((L.set i2 (nx, (Obj.map #[⟨.string ⟨#[35]⟩, .pointer (some ⟨a3 + 2, 0, none⟩), 0⟩] 1))) ++ [(a3, Obj.map #[] 0), (a3 + 1, Obj.map #[] 0), (a3 + 2, nodeO a3 (a3 + 1))])[L.length + 2]? = some (a3 + 2, nodeO a3 (a3 + 1)) from app_new 2 (List.length_set ..) rfl)
  obtain ⟨n0, n1⟩ := twocell (HH5.out.get i1 HJ1.out)
  obtain ⟨e0, e1⟩ := twocell (HH5.out.get _ HJb.out)
  have hl2 := look_hit (mt := 271) (key := .string ⟨#[35]⟩) (v := .pointer (some ⟨a3 + 2, 0, none⟩)) (i := 0) Tryz.underlying271 Tryz.underlying9 (by simp [MapKept.IsKey]) (HH5.out.get i2 HJ2.out) rfl false
  have hl3 := look_miss (mt := 272) (key := .string s) (z := kept0) Tryz.underlying272 Tryz.underlying9 (by simp [MapKept.IsKey]) (by simp [Tryz.zeroValue147, kept0]) (HH5.out.get _ HJa.out) rfl true
  go_upto_region 9 with (fail)
  rw [rounds_succ]
  unfold kept0 at hl3
  go_upto_region 10 with (fail)
  clear n0 n1 e0 e1 hl hl2 hl3
  have HH6 := Lib.hid ((HH5.out.below (bel1 X (Obj.cells #[.string ⟨#[]⟩, .int .u8 0, .bool false, .bool false, .int .u8 0, .int .u32 0] 147))).below (Below.refl (X.alloc (Obj.cells #[.string ⟨#[]⟩, .int .u8 0, .bool false, .bool false, .int .u8 0, .int .u32 0] 147)).heap.size (X.alloc (Obj.cells #[.string ⟨#[]⟩, .int .u8 0, .bool false, .bool false, .int .u8 0, .int .u32 0] 147))).drew)
  have HK6 := Lib.hid (blk_below (blk_below HK4.out (bel1 X (Obj.cells #[.string ⟨#[]⟩, .int .u8 0, .bool false, .bool false, .int .u8 0, .int .u32 0] 147))) (Below.refl (X.alloc (Obj.cells #[.string ⟨#[]⟩, .int .u8 0, .bool false, .bool false, .int .u8 0, .int .u32 0] 147)).heap.size (X.alloc (Obj.cells #[.string ⟨#[]⟩, .int .u8 0, .bool false, .bool false, .int .u8 0, .int .u32 0] 147))).drew)
  obtain ⟨e0, e1⟩ := twocell (HH6.out.get _ HJb.out)
  obtain ⟨k0, k1, k2, k3, k4, k5⟩ := sixcell HK6.out
  have hp := put_new (w := (X.alloc (Obj.cells #[.string ⟨#[]⟩, .int .u8 0, .bool false, .bool false, .int .u8 0, .int .u32 0] 147)).drew) (mt := 272) (key := .string s) (v := keptV) Tryz.underlying272 Tryz.underlying9 (by simp [MapKept.IsKey]) (HH6.out.get _ HJa.out) rfl
  unfold keptV keptC at hp
  go_region
  have hset : ((L.set i2 (nx, (Obj.map #[⟨.string ⟨#[35]⟩, .pointer (some ⟨a3 + 2, 0, none⟩), 0⟩] 1))) ++ [(a3, Obj.map #[] 0), (a3 + 1, Obj.map #[] 0), (a3 + 2, nodeO a3 (a3 + 1))]).set (L.length + 1) (a3 + 1, (Obj.map #[⟨.string s, keptV, 0⟩] 1)) = (L.set i2 (nx, (Obj.map #[⟨.string ⟨#[35]⟩, .pointer (some ⟨a3 + 2, 0, none⟩), 0⟩] 1))) ++ [(a3, Obj.map #[] 0), (a3 + 1, (Obj.map #[⟨.string s, keptV, 0⟩] 1)), (a3 + 2, nodeO a3 (a3 + 1))] := by
    rw [List.set_append_right _ _ (by rw [List.length_set]; omega), List.length_set, Nat.add_sub_cancel_left]
    rfl
  have HH7 := Lib.hid (show Held (ChangeMaps.setBlock (X.alloc (Obj.cells #[.string ⟨#[]⟩, .int .u8 0, .bool false, .bool false, .int .u8 0, .int .u32 0] 147)).drew (a3 + 1) (Obj.map #[⟨.string s, keptV, 0⟩] 1)) ((L.set i2 (nx, (Obj.map #[⟨.string ⟨#[35]⟩, .pointer (some ⟨a3 + 2, 0, none⟩), 0⟩] 1))) ++ [(a3, Obj.map #[] 0), (a3 + 1, (Obj.map #[⟨.string s, keptV, 0⟩] 1)), (a3 + 2, nodeO a3 (a3 + 1))]) from hset ▸ HH6.out.set _ HJa.out (setB_chg _ _ _) (setB_at _ (HH6.out.get _ HJa.out)))
  clear hset hp e0 e1 k0 k1 k2 k3 k4 k5 HH6 HK6 HH5 HK4 HJ1 HJ2 HJa HJb HJ0
  have HJ0 := Lib.hid (show ((L.set i2 (nx, (Obj.map #[⟨.string ⟨#[35]⟩, .pointer (some ⟨a3 + 2, 0, none⟩), 0⟩] 1))) ++ [(a3, Obj.map #[] 0), (a3 + 1, (Obj.map #[⟨.string s, keptV, 0⟩] 1)), (a3 + 2, nodeO a3 (a3 + 1))])[i0]? = some (tp, trieO rt 0) from app_get (set_other HI0.out HN2.out.2))
  unfold keptV keptC at HH7 HJ0
  generalize ChangeMaps.setBlock _ _ _ = Y at HH7 ⊢
  have hb0 := HH7.out.get i0 HJ0.out
  unfold trieO at hb0
  obtain ⟨t0, t1⟩ := twocell hb0
  have ft := blk_frozen hb0 1
  clear hb0
  go_wp2
  go_ret
  refine ⟨a3, rfl, ?_⟩
  have h := HH7.out.set i0 HJ0.out (chg_setc' tp 1 (.int .i64 1)) (blk_put (HH7.out.get i0 HJ0.out) 1 (.int .i64 1) rfl)
  rw [set_app (by rw [List.length_set]; exact HL0.out)] at h
  exact h
end Go.Proofs.YtbfgpkogginmjaaGreatDoor
end

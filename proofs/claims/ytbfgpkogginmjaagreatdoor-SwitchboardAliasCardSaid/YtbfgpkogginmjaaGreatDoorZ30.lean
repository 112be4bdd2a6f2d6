/- Parts of a proof about aliases: T10, T11. -/
import Derived.Laws.EntriesVeiled
import Derived.Test.YtbfgpkogginmjaaGreatDoorZ29
section
namespace Go.Proofs.YtbfgpkogginmjaaGreatDoor
open Go.RowKit Go.Lib Go.Proofs.YtbfgpkogginmjaaGreatDoorW.PrintWords Go.Proofs.YtbfgpkogginmjaaGreatDoor.PSwitchboardGreat
set_option linter.unusedSectionVars false
variable [LawBase]
set_option linter.unusedVariables false
set_option linter.unusedSimpArgs false
set_option maxRecDepth 1000000
set_option maxHeartbeats 800000 in
theorem groups_calls {w : World} {tb tp sp pk srt snx shs : Nat} {f n : ByteArray} {on : Value} (hb : w.heap[tb]? = some (tblO tp sp pk)) (ht : w.heap[sp]? = some (trieO srt 0)) (h1 : w.heap[srt]? = some (nodeO snx shs)) (h2 : w.heap[snx]? = some (.map #[] 0)) (hM : HasM w) (hn : NmB n) (hz : n.size ≤ 100) : Calls Tryz.prog 249 #[.pointer (some ⟨tb, 0, none⟩), msg f n, on] w (RB (.slice none 0 0) w) := by
  unfold msg
  have hb1 : Below w.heap.size w ((w.alloc (Obj.cells #[.string f, .int .i64 0, .int .u8 0, .bool false, .slice none 0 0, .string n, .string ⟨#[]⟩] 278)).drew) := (bel1 w (Obj.cells #[.string f, .int .i64 0, .int .u8 0, .bool false, .slice none 0 0, .string n, .string ⟨#[]⟩] 278)).drew
  have HM := Lib.hid (show ((w.alloc (Obj.cells #[.string f, .int .i64 0, .int .u8 0, .bool false, .slice none 0 0, .string n, .string ⟨#[]⟩] 278)).drew).heap[w.heap.size]? = some (Obj.cells #[.string f, .int .i64 0, .int .u8 0, .bool false, .slice none 0 0, .string n, .string ⟨#[]⟩] 278) from heap_alloc_new w (Obj.cells #[.string f, .int .i64 0, .int .u8 0, .bool false, .slice none 0 0, .string n, .string ⟨#[]⟩] 278))
  have HB := Lib.hid hb1
  have HTB := Lib.hid (blk_below hb hb1)
  have HMA := Lib.hid (match0_calls (blk_below ht hb1) (blk_below h1 hb1) ((hb1.block _ (blk_lt h2)).trans h2) (hM.to hb1) hn hz)
  unfold RB at HMA
  clear hb ht h1 h2 hM hn hz hb1
  go_enter Tryz.func249, Tryz.ntmps249
  go_upto_region 1 with (fail)
  obtain ⟨m0, m1, m2, m3, m4, m5, m6⟩ := sevencell HM.out
  have htb := HTB.out
  unfold tblO at htb
  obtain ⟨b0, b1, b2⟩ := frcell htb
  clear htb
  go_region_held3 (fun w' => w'.cell? ⟨tb, 1, none⟩ = some (.pointer (some ⟨sp, 0, none⟩)) ∧ w'.cell? ⟨w.heap.size, 5, none⟩ = some (.string n)) (first | exact ⟨b1, m5⟩ | exact ⟨x1, y5⟩ | go_keep) (first
    | (go_at_call 286; (with_reducible refine (HMA.out).mono ?_); rintro e w2 ⟨rfl, hhb⟩; have HB2 := Lib.hid (Below.into HB.out hhb); have HM2 := Lib.hid (blk_below HM.out hhb); have htb := blk_below HTB.out hhb; unfold tblO at htb; obtain ⟨x0, x1, x2⟩ := frcell htb; obtain ⟨y0, y1, y2, y3, y4, y5, y6⟩ := sevencell HM2.out; clear htb hhb))
  clear x0 x1 x2 y0 y1 y2 y3 y4 y5 y6 m0 m1 m2 m3 m4 m5 m6 b0 b1 b2
  have HSS := Lib.hid (fun W f => show Calls Tryz.prog 278 #[.slice none 0 0, f] W (Is (.tuple #[]) W) from ss_calls (w := W) (A := none) (c := 0) (n := 0) (f := f) (by decide))
  go_upto_region 3 with (fail)
  have HX := Lib.hid (fun o => Below.into HB2.out (bel1 w2 o))
  go_upto_region 5 with (first
    | (go_at_call 278; (with_reducible refine (HSS.out _ _).mono ?_); rintro e w5 ⟨rfl, hw⟩; have hw := hw.symm; subst hw))
  refine wp_loop_rounds 1 ?_
  rw [rounds_succ]
  go_wp2
  go_ret
  exact ⟨rfl, HX.out _⟩
set_option maxHeartbeats 800000 in
theorem plan_calls {w : World} {tb tp sp pk rt nx hs y yn yh srt snx shs : Nat} {f n : ByteArray} {on : Value} (hb : w.heap[tb]? = some (tblO tp sp pk)) (ht : w.heap[tp]? = some (trieO rt 1)) (h1 : w.heap[rt]? = some (nodeO nx hs)) (h2 : w.heap[nx]? = some (.map #[⟨.string ⟨#[35]⟩, .pointer (some ⟨y, 0, none⟩), 0⟩] 1)) (hy : w.heap[y]? = some (nodeO yn yh)) (hm : w.heap[yh]? = some (.map #[⟨.string ⟨#[115, 117, 98]⟩, keptV, 0⟩] 1)) (gt : w.heap[sp]? = some (trieO srt 0)) (g1 : w.heap[srt]? = some (nodeO snx shs)) (g2 : w.heap[snx]? = some (.map #[] 0)) (hM : HasM w) (hn : NmB n) (h0 : 0 < n.size) (hz : n.size ≤ 100) : Calls Tryz.prog 194 #[.pointer (some ⟨tb, 0, none⟩), msg f n, on] w (DirectP w f n) := by
  have hb1 : Below w.heap.size w ((w.alloc (Obj.cells #[.string f, .int .i64 0, .int .u8 0, .bool false, .slice none 0 0, .string n, .string ⟨#[]⟩] 278)).drew) := (bel1 w (Obj.cells #[.string f, .int .i64 0, .int .u8 0, .bool false, .slice none 0 0, .string n, .string ⟨#[]⟩] 278)).drew
  have HM := Lib.hid (show ((w.alloc (Obj.cells #[.string f, .int .i64 0, .int .u8 0, .bool false, .slice none 0 0, .string n, .string ⟨#[]⟩] 278)).drew).heap[w.heap.size]? = some (Obj.cells #[.string f, .int .i64 0, .int .u8 0, .bool false, .slice none 0 0, .string n, .string ⟨#[]⟩] 278) from heap_alloc_new w (Obj.cells #[.string f, .int .i64 0, .int .u8 0, .bool false, .slice none 0 0, .string n, .string ⟨#[]⟩] 278))
  have HB := Lib.hid hb1
  have HDI := Lib.hid (direct_calls (f := f) (blk_below hb hb1) (blk_below ht hb1) (blk_below h1 hb1) ((hb1.block _ (blk_lt h2)).trans h2) (blk_below hy hb1) ((hb1.block _ (blk_lt hm)).trans hm) (hM.to hb1) hn h0 hz)
  have HGR := Lib.hid (fun W (hW : Below w.heap.size w W) => groups_calls (w := W) (f := f) (on := on) (blk_below hb hW) (blk_below gt hW) (blk_below g1 hW) ((hW.block _ (blk_lt g2)).trans g2) (hM.to hW) hn hz)
  unfold DirectP msg at HDI
  unfold RB msg at HGR
  unfold msg
  clear hb ht h1 h2 hy hm gt g1 g2 hM hn h0 hz hb1
  go_enter Tryz.func194, Tryz.ntmps194
  go_upto_region 1 with (fail)
  obtain ⟨m0, m1, m2, m3, m4, m5, m6⟩ := sevencell HM.out
  go_region_held3 (fun w' => w'.cell? ⟨w.heap.size, 0, none⟩ = some (.string f) ∧ w'.cell? ⟨w.heap.size, 1, none⟩ = some (.int .i64 0) ∧ w'.cell? ⟨w.heap.size, 2, none⟩ = some (.int .u8 0) ∧ w'.cell? ⟨w.heap.size, 3, none⟩ = some (.bool false) ∧ w'.cell? ⟨w.heap.size, 4, none⟩ = some (.slice none 0 0) ∧ w'.cell? ⟨w.heap.size, 5, none⟩ = some (.string n) ∧ w'.cell? ⟨w.heap.size, 6, none⟩ = some (.string ⟨#[]⟩)) (first | exact ⟨m0, m1, m2, m3, m4, m5, m6⟩ | exact ⟨x0, x1, x2, x3, x4, x5, x6⟩ | exact ⟨y0, y1, y2, y3, y4, y5, y6⟩ | go_keep) (first
    | (go_at_call 248; (with_reducible refine (HDI.out).mono ?_); rintro e w2 ⟨B, c, rfl, hc, hBs, hr, hhb⟩; have HCC := Lib.hid hc; have HBS := Lib.hid hBs; have HRR := Lib.hid hr; have HB2 := Lib.hid (Below.into HB.out hhb); have HM2 := Lib.hid (blk_below HM.out hhb); obtain ⟨x0, x1, x2, x3, x4, x5, x6⟩ := sevencell HM2.out; clear hc hBs hr hhb)
    | (go_at_call 249; (with_reducible refine (HGR.out _ HB2.out).mono ?_); rintro e w3 ⟨rfl, hhb⟩; have HR3 := Lib.hid (HRR.out.below hhb); have HB3 := Lib.hid (Below.into HB2.out hhb); have HM3 := Lib.hid (blk_below HM2.out hhb); obtain ⟨y0, y1, y2, y3, y4, y5, y6⟩ := sevencell HM3.out; clear hhb))
  clear x0 x1 x2 x3 x4 x5 x6 y0 y1 y2 y3 y4 y5 y6 m0 m1 m2 m3 m4 m5 m6
  have HSZ := Lib.hid (Nat.le_trans HB.out.size HBS.out)
  go_wp2
  go_ret
  exact ⟨B, c, rfl, HCC.out, HSZ.out, HR3.out, HB3.out⟩
end Go.Proofs.YtbfgpkogginmjaaGreatDoor
end
section
namespace Go.Proofs.YtbfgpkogginmjaaGreatDoor
open Go.RowKit Go.Lib Go.Proofs.YtbfgpkogginmjaaGreatDoorW.PrintWords Go.Proofs.YtbfgpkogginmjaaGreatDoor.PSwitchboardGreat
set_option linter.unusedSectionVars false
variable [LawBase]
set_option linter.unusedVariables false
set_option linter.unusedSimpArgs false
set_option maxRecDepth 1000000
set_option maxHeartbeats 800000
theorem place_calls {w : World} {tb tp sp pk : Nat} {c : ByteArray} (hb : w.heap[tb]? = some (tblO tp sp pk)) (hM : HasM w) : Calls Tryz.prog 201 #[.pointer (some ⟨tb, 0, none⟩), .string c, .string ⟨#[35]⟩] w (RB (.tuple #[.pointer (some ⟨tp, 0, none⟩), .string ⟨#[35]⟩, .string c]) w) := by
  have HS := Lib.hid (split_hash hM)
  have HTB := Lib.hid hb
  clear hb hM
  go_enter Tryz.func201, Tryz.ntmps201
  go_upto_region 2 with (first
    | (go_at_call 156; (with_reducible refine (HS.out).mono ?_); rintro e w1 ⟨rfl, hb⟩; have HB1 := Lib.hid hb; clear hb))
  have htb := blk_below HTB.out HB1.out
  unfold tblO at htb
  obtain ⟨b0, b1, b2⟩ := frcell htb
  clear htb
  go_wp2
  exact bodyPost_ret (v := .tuple #[.pointer (some ⟨tp, 0, none⟩), .string ⟨#[35]⟩, .string c]) (by simp [results, Tryz.results201, go_sem]) rfl ⟨rfl, HB1.out⟩
theorem radd_calls {w : World} {L : List (Nat × Obj)} {tb tp sp pk rt nx hs : Nat} {s : ByteArray} (H : Held w L) (hm : HasM w) {it i0 i1 i2 : Nat} (ht : L[it]? = some (tb, tblO tp sp pk)) (h0 : L[i0]? = some (tp, trieO rt 0)) (h1 : L[i1]? = some (rt, nodeO nx hs)) (h2 : L[i2]? = some (nx, .map #[] 0)) (hss : s.size ≤ 1000) : Calls Tryz.prog 157 #[.pointer (some ⟨tb, 0, none⟩), .string s, keptV] w (PutPX L i2 i0 tp rt nx s) := by
  unfold keptV keptC
  have hk : (w.alloc (Obj.cells #[.string ⟨#[35]⟩, .int .u8 0, .bool false, .bool false, .int .u8 0, .int .u32 0] 147)).heap[w.heap.size]? = some (Obj.cells #[.string ⟨#[35]⟩, .int .u8 0, .bool false, .bool false, .int .u8 0, .int .u32 0] 147) := heap_alloc_new w (Obj.cells #[.string ⟨#[35]⟩, .int .u8 0, .bool false, .bool false, .int .u8 0, .int .u32 0] 147)
  have hh : Held (w.alloc (Obj.cells #[.string ⟨#[35]⟩, .int .u8 0, .bool false, .bool false, .int .u8 0, .int .u32 0] 147)) L := H.below (bel1 w (Obj.cells #[.string ⟨#[35]⟩, .int .u8 0, .bool false, .bool false, .int .u8 0, .int .u32 0] 147))
  have hmm : HasM (w.alloc (Obj.cells #[.string ⟨#[35]⟩, .int .u8 0, .bool false, .bool false, .int .u8 0, .int .u32 0] 147)) := hm.to (bel1 w (Obj.cells #[.string ⟨#[35]⟩, .int .u8 0, .bool false, .bool false, .int .u8 0, .int .u32 0] 147))
  have HP := Lib.hid (place_calls (c := s) (hh.get it ht) hmm)
  have HK := Lib.hid hk
  have HPT := Lib.hid (fun W (hW : Below (w.alloc (Obj.cells #[.string ⟨#[35]⟩, .int .u8 0, .bool false, .bool false, .int .u8 0, .int .u32 0] 147)).heap.size (w.alloc (Obj.cells #[.string ⟨#[35]⟩, .int .u8 0, .bool false, .bool false, .int .u8 0, .int .u32 0] 147)) W) => put_hash (s := s) (hh.below hW) (hmm.to hW) h0 h1 h2 hss)
  unfold keptV keptC at HPT
  unfold RB at HP
  clear H hm ht h0 h1 h2 hss hk hh hmm
  go_enter Tryz.func157, Tryz.ntmps157
  go_upto_region 1 with (fail)
  generalize (w.alloc (Obj.cells #[.string ⟨#[35]⟩, .int .u8 0, .bool false, .bool false, .int .u8 0, .int .u32 0] 147)) = X at HP HK HPT ⊢
  generalize w.heap.size = kb at HK ⊢
  obtain ⟨k0, k1, k2, k3, k4, k5⟩ := sixcell HK.out
  go_upto_region 2 with (first
    | (go_at_call 201; (with_reducible refine (HP.out).mono ?_); rintro e w1 ⟨rfl, hb⟩; have HB1 := Lib.hid hb; have HK1 := Lib.hid (blk_below HK.out hb); clear hb))
  clear k0 k1 k2 k3 k4 k5
  obtain ⟨k0, k1, k2, k3, k4, k5⟩ := sixcell HK1.out
  go_wp2_with (first
    | (go_at_call 202; (with_reducible refine (HPT.out _ HB1.out).mono ?_); unfold PutPX; rintro e w2 ⟨a, rfl, hh⟩; have HH := Lib.hid hh; clear hh))
  go_ret
  exact ⟨a, rfl, HH.out⟩
theorem keys254_calls {w : World} (b : Nat) : Calls Tryz.prog 254 #[.map (some b)] w (Is (.func (.func 292) #[] #[.pointer (some ⟨w.heap.size, 0, none⟩)]) (w.alloc (.cells #[.map (some b)] 152))) := callsIn_wide.1 (Tryz.maps_Keys_254 (some b) w)
theorem sorted254_calls {w : World} {b k : Nat} (h : w.heap[b]? = some (.map #[] k)) : Calls Tryz.prog 77 #[.func (.func 292) #[] #[.pointer (some ⟨w.heap.size, 0, none⟩)]] (w.alloc (.cells #[.map (some b)] 152)) (RB (.slice none 0 0) (w.alloc (.cells #[.map (some b)] 152))) := by
  refine (callsIn_wide.1 (Tryz.slices_Sorted_keys_77_254 b 0 _ one1 w (own_map0 h) (by decide) (by decide))).mono ?_
  rintro e w' ⟨v, ss, rfl, hp, hr, hv, hb⟩
  have hp : ss.Perm [] := hp
  have : ss = [] := hp.eq_nil
  exact ⟨by rw [hv.2 this], hb⟩
def stO (m : Nat) : Obj := .cells #[.map (some m), .int .i64 20] 154
theorem smatch_calls {w : World} {st m k : Nat} {f : ByteArray} {now : Int} (h1 : w.heap[st]? = some (stO m)) (h2 : w.heap[m]? = some (.map #[] k)) : Calls Tryz.prog 203 #[.pointer (some ⟨st, 0, none⟩), .string f, .int .i64 now] w (RB (.slice none 0 0) w) := by
  obtain ⟨s0, s1⟩ := twocell h1
  have HK := Lib.hid (keys254_calls (w := w) m)
  have HSO := Lib.hid (sorted254_calls h2)
  unfold RB at HSO
  clear h1 h2
  go_enter Tryz.func203, Tryz.ntmps203
  go_upto_region 3 with (first
    | (go_at_call 254; (with_reducible refine HK.out.mono ?_); rintro e w1 ⟨rfl, rfl⟩)
    | (go_at_call 77; (with_reducible refine HSO.out.mono ?_); rintro e w2 ⟨rfl, hb⟩; have HB2 := Lib.hid (Below.into (bel1 w _) hb); clear hb))
  refine wp_loop_rounds 1 ?_
  rw [rounds_succ]
  go_wp2
  go_ret
  exact ⟨rfl, HB2.out⟩
theorem retd_calls {w : World} {st m k : Nat} {c : ByteArray} {now : Int} {was : Bool} (h1 : w.heap[st]? = some (stO m)) (h2 : w.heap[m]? = some (.map #[] k)) (hm : HasM w) : Calls Tryz.prog 158 #[.pointer (some ⟨st, 0, none⟩), .string c, keptV, .bool was, .int .i64 now] w (RB (.slice none 0 0) w) := by
  unfold keptV keptC
  have hk : (w.alloc (Obj.cells #[.string ⟨#[35]⟩, .int .u8 0, .bool false, .bool false, .int .u8 0, .int .u32 0] 147)).heap[w.heap.size]? = some (Obj.cells #[.string ⟨#[35]⟩, .int .u8 0, .bool false, .bool false, .int .u8 0, .int .u32 0] 147) := heap_alloc_new w (Obj.cells #[.string ⟨#[35]⟩, .int .u8 0, .bool false, .bool false, .int .u8 0, .int .u32 0] 147)
  have hb1 := bel1 w (Obj.cells #[.string ⟨#[35]⟩, .int .u8 0, .bool false, .bool false, .int .u8 0, .int .u32 0] 147)
  have HK := Lib.hid hk
  have HB := Lib.hid hb1
  have HS := Lib.hid (split_hash (hm.to hb1))
  have HSM := Lib.hid (fun W (hW : Below w.heap.size w W) => smatch_calls (w := W) (f := ⟨#[35]⟩) (now := now) (blk_below h1 hW) ((hW.block _ (blk_lt h2)).trans h2))
  unfold RB at HSM
  clear h1 h2 hm hk hb1
  go_enter Tryz.func158, Tryz.ntmps158
  go_upto_region 1 with (fail)
  generalize (w.alloc (Obj.cells #[.string ⟨#[35]⟩, .int .u8 0, .bool false, .bool false, .int .u8 0, .int .u32 0] 147)) = X at HS HK HB ⊢
  obtain ⟨kb, HKB⟩ : ∃ a, Hid (a = w.heap.size) := ⟨_, Lib.hid rfl⟩
  rw [← HKB.out] at HK ⊢
  obtain ⟨k0, k1, k2, k3, k4, k5⟩ := sixcell HK.out
  go_upto_region 2 with (first
    | (go_at_call 156; (with_reducible refine (HS.out).mono ?_); rintro e w1 ⟨rfl, hb⟩; have HB1 := Lib.hid (Below.into HB.out hb); have HK1 := Lib.hid (blk_below HK.out hb); clear hb))
  clear k0 k1 k2 k3 k4 k5
  obtain ⟨k0, k1, k2, k3, k4, k5⟩ := sixcell HK1.out
  go_upto_region 6 with (first
    | (go_at_call 203; (with_reducible refine (HSM.out _ HB1.out).mono ?_); rintro e w2 ⟨rfl, hb⟩; have HB2 := Lib.hid (Below.into HB1.out hb); clear hb))
  refine wp_loop_rounds 1 ?_
  rw [rounds_succ]
  go_wp2
  go_ret
  exact ⟨rfl, HB2.out⟩
end Go.Proofs.YtbfgpkogginmjaaGreatDoor
end
